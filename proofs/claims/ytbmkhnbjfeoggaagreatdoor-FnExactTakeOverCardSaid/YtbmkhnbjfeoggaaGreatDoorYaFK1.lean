/- Functions. -/
import Derived.Test.YtbmkhnbjfeoggaaGreatDoorYaFK0
set_option linter.all false
set_option maxRecDepth 100000
set_option maxHeartbeats 4000000
namespace Go.Proofs.Qa
open Go
attribute [go_sem] Tryz.ntmps225 Tryz.results225
theorem sQ {n:Int}{res:Bool}(h:ie n=some res):an Tryz.prog 225 [.lit (.int .i64 n)] [] (.lit (.bool res)) []:=by
 refine aj (ra:=[]) (md:=mdT) hT (hi:=hi00) Tryz.func225 rfl rfl (by decide +kernel) (by simp) ?_
 unfold ie at h
 obtain ⟨h1,h⟩|⟨h1,h⟩:=af h
 ·cases h
  simp(config:=cS)only[go_sem,eqT h1]
 ·cases h
  simp(config:=cS)only[go_sem,eqF h1]
def kJ (c d:List Int)(a b:Int):St:=⟨[(0,.sl (ab eI c)),(1,.sl (ab eI d)),(12,.lit (.int .i64 a)),(13,.lit (.int .i64 b))],[],2⟩
attribute [go_sem] kJ
@[go_sem] def hi113_6:DT:=.i2 0 (.i2 1 (.i2 2 (.i2 3 (.i2 4 (.i2 5 (.i2 6 (.i2 7 (.i2 8 .nil))))))))
def Dj:Hint where
 acts:=fun _=>[]
 draws:=fun
  | 6=>⟨hi113_6,[[],[],[0,1],[0,1,2],[],[],[4,5],[4,5,6],.range 8],.range 9⟩
  | _=>⟨.nil,[],[]⟩
theorem NN (i:Nat):Dj.acts i=[]:=rfl
theorem NO (i:Nat):Dj.views i=none:=rfl
attribute [go_sem] NN NO Tryz.ntmps113 Tryz.results113
@[go_sem] theorem PW:(Dj.draws 6).order=hi113_6:=rfl
theorem kK {v0 v1:List Int}{res:Bool}(h:cm v0 v1=some res):an Tryz.prog 113 [.sl (ab eI v0),.sl (ab eI v1)] [] (.lit (.bool res)) []:=by
 refine aj (ra:=[]) (md:=mdT) hT (hi:=Dj) Tryz.func113 rfl rfl (by decide +kernel) (by simp) ?_
 unfold cm at h
 obtain ⟨h1,h⟩|⟨h1,h⟩:=af h
 ·obtain ⟨q03,l2,h⟩:=ae h
  simp(config:=cS)only[go_sem,eqT h1]
  refine ap (m1:=.mk) (m2:=.mk) [.nf [0,1,12,13] []] (kJ v0 v1 ((v0.length:Nat):Int)) l2 ?_ ?_
  ·simp(config:=cS)only[go_sem]
  ·intro nb3 v13_1 bb3 b3 gb3
   unfold cg at b3
   try dsimp only at b3
   obtain ⟨h4,b3⟩|⟨h4,b3⟩:=af b3
   ·obtain ⟨x01,g5,b3⟩:=ae b3
    obtain ⟨h6,h7,h8⟩:=al g5
    obtain ⟨x02,g9,b3⟩:=ae b3
    obtain ⟨h10,h11,h12⟩:=al g9
    obtain ⟨h13,b3⟩|⟨h13,b3⟩:=af b3
    ·cases b3
     simp(config:=cS)only[go_sem,eqT h4,h6,h7,h8,h10,h11,h12,eqT h13]
     refine aq gb3 ?_
     simp(config:=cS)only[go_sem]
    ·cases b3
     obtain rfl:=(ak gb3).symm
     try dsimp only at h
     cases h
     simp(config:=cS)only[go_sem,eqT h4,h6,h7,h8,h10,h11,h12,eqF h13]
   ·cases b3
    obtain rfl:=(ak gb3).symm
    try dsimp only at h
    cases h
    simp(config:=cS)only[go_sem,eqF h4]
 ·cases h
  simp(config:=cS)only[go_sem,eqF h1]
def ji (c:List GTie)(a:Nat)(b:List AV)(d e:Int):St:=⟨[(0,.sl (ab GTie.enc c)),(1,.fn a b),(7,.lit (.int .i64 d)),(8,.lit (.int .i64 e))],[],2⟩
attribute [go_sem] ji
attribute [go_sem] Tryz.ntmps275 Tryz.results275
theorem lG {v0:List GTie}{v1:GTie→Option Bool}{f_v1:Nat}{k_v1:List AV}(hp_v1:∀ y0 r,v1 y0=some r→an Tryz.prog f_v1 ([.agg (GTie.enc y0)]++k_v1) [] (.lit (.bool r)) [])(hc_v1:KC k_v1)(hm_v1:∀ a,mdT f_v1 a=⟨[],false⟩)(hk_v1:spf f_v1=false){res:Int}(h:bW v0 v1=some res):an Tryz.prog 275 [.sl (ab GTie.enc v0),.fn f_v1 k_v1] [] (.lit (.int .i64 res)) []:=by
 refine aj (ra:=[]) (md:=mdT) hT (hi:=hi00) Tryz.func275 rfl rfl (by decide +kernel) (by simp) ?_
 unfold bW at h
 obtain ⟨q03,l1,h⟩:=ae h
 simp(config:=cS)only[go_sem,hc_v1.1,hc_v1.2,hm_v1,hk_v1]
 refine ap (m1:=.mk) (m2:=.mk) [.nf [0,1,7,8] []] (ji v0 f_v1 k_v1 ((v0.length:Nat):Int)) l1 ?_ ?_
 ·simp(config:=cS)only[go_sem,hc_v1.1,hc_v1.2,hm_v1,hk_v1]
 ·intro nb2 v8_1 bb2 b2 gb2
  unfold bz at b2
  try dsimp only at b2
  obtain ⟨h3,b2⟩|⟨h3,b2⟩:=af b2
  ·obtain ⟨x01,g4,b2⟩:=ae b2
   obtain ⟨h5,h6,h7⟩:=al g4
   obtain ⟨r02,g8,b2⟩:=ae b2
   simp(config:=cS)only[go_sem,hc_v1.1,hc_v1.2,hm_v1,hk_v1,eqT h3,h5,h6,h7]
   refine ag (hp_v1 _ _ g8) ?_
   obtain ⟨h9,b2⟩|⟨h9,b2⟩:=af b2
   ·cases b2
    obtain rfl:=(ak gb2).symm
    try dsimp only at h
    cases h
    simp(config:=cS)only[go_sem,hc_v1.1,hc_v1.2,hm_v1,hk_v1,eqT h3,h5,h6,h7,eZt h9]
   ·cases b2
    simp(config:=cS)only[go_sem,hc_v1.1,hc_v1.2,hm_v1,hk_v1,eqT h3,h5,h6,h7,eZf h9]
    refine aq gb2 ?_
    simp(config:=cS)only[go_sem,hc_v1.1,hc_v1.2,hm_v1,hk_v1,eqT h3,h5,h6,h7,eZf h9]
  ·cases b2
   obtain rfl:=(ak gb2).symm
   try dsimp only at h
   cases h
   simp(config:=cS)only[go_sem,hc_v1.1,hc_v1.2,hm_v1,hk_v1,eqF h3]
attribute [go_sem] Tryz.ntmps226 Tryz.results226
theorem pS {v0:List GTie}{v1:GTie→Option Bool}{f_v1:Nat}{k_v1:List AV}(hp_v1:∀ y0 r,v1 y0=some r→an Tryz.prog f_v1 ([.agg (GTie.enc y0)]++k_v1) [] (.lit (.bool r)) [])(hc_v1:KC k_v1)(hm_v1:∀ a,mdT f_v1 a=⟨[],false⟩)(hk_v1:spf f_v1=false){res:Bool}(h:bA v0 v1=some res):an Tryz.prog 226 [.sl (ab GTie.enc v0),.fn f_v1 k_v1] [] (.lit (.bool res)) []:=by
 refine aj (ra:=[]) (md:=mdT) hT (hi:=hi00) Tryz.func226 rfl rfl (by decide +kernel) (by simp) ?_
 unfold bA at h
 obtain ⟨r01,g1,h⟩:=ae h
 simp(config:=cS)only[go_sem,hc_v1.1,hc_v1.2,hm_v1,hk_v1]
 refine ag (lG hp_v1 hc_v1 hm_v1 hk_v1 g1) ?_
 cases h
 simp(config:=cS)only[go_sem]
attribute [go_sem] Tryz.ntmps227 Tryz.results227
theorem vy {u t:GTie}{res:Bool}(h:gd u t=some res):an Tryz.prog 227 [.agg (GTie.enc u),.loc [.lit (.int .i64 t.from_),.lit (.int .i64 t.to),.lit (.int .i64 t.low),.lit (.int .i64 t.high),.lit (.bool t.free)]] [] (.lit (.bool res)) []:=by
 refine aj (ra:=[]) (md:=mdT) hT (hi:=hi00) Tryz.func227 rfl rfl (by decide +kernel) (by simp) ?_
 unfold gd at h
 obtain ⟨h1,h⟩|⟨h1,h⟩:=af h
 ·cases h
  simp(config:=cS)only[go_sem,eZt h1]
 ·cases h
  simp(config:=cS)only[go_sem,eZf h1]
def nJ (a:List GTie)(d:Int)(b:List GNode)(c e:Int):St:=⟨[(1,.ptr 64 1 0 0),(6,.sl (ab GTie.enc a)),(7,.lit (.int .i64 d)),(8,.lit (.int .i64 e))],[(64,1,.var [.sl (ab GNode.encS b),.sl (ab GTie.enc a),.lit (.int .i64 c)])],2⟩
attribute [go_sem] nJ
@[go_sem] def hi140_7:DT:=.i2 0 (.i2 1 (.i2 2 (.i2 3 (.i2 4 (.i2 5 (.i2 6 (.i2 7 (.i2 8 (.i2 9 (.i2 10 (.i2 11 (.i2 12 (.i2 13 (.i2 14 (.i2 15 (.i2 16 (.i2 17 (.i2 18 (.i2 19 (.i2 20 (.i2 21 (.i2 22 (.i2 23 (.i2 24 (.i2 25 (.i2 26 (.i2 27 (.i2 28 (.i2 29 (.i2 30 (.i2 31 (.i2 32 (.i2 33 (.i2 34 (.i2 35 .nil)))))))))))))))))))))))))))))))))))
def Dk:Hint where
 acts:=fun _=>[]
 draws:=fun
  | 7=>⟨hi140_7,[[],[0],[0,1],[0,1,2],[0,1,2,3],.range 5,.range 6,.range 7,.range 8,.range 9,.range 10,.range 9,[0,1,2,3,4,5,6,7,8,11],.range 13,.range 14,.range 15,.range 16,.range 17,.range 18,.range 19,.range 20,.range 19,[0,1,2,3,4,5,6,7,8,9,10,11,12,13,14,15,16,17,18,21],.range 23,.range 24,.range 25,.range 19,[0,1,2,3,4,5,6,7,8,9,10,11,12,13,14,15,16,17,18,26],.range 19,[0,1,2,3,4,5,6,7,8,9,10,11,12,13,14,15,16,17,18,28],[0,1,2,3,4,5,6,7,8,9,10,11,12,13,14,15,16,17,18,26,27,28,29],[0,1,2,3,4,5,6,7,8,9,10,11,12,13,14,15,16,17,18,26,27,28,29,30],[0,1,2,3,4,5,6,7,8,9,10,11,12,13,14,15,16,17,18,26,27,28,29,30,31],.range 33,.range 34,.range 35],.range 36⟩
  | _=>⟨.nil,[],[]⟩
theorem NP (i:Nat):Dk.acts i=[]:=rfl
theorem NQ (i:Nat):Dk.views i=none:=rfl
attribute [go_sem] NP NQ Tryz.ntmps140 Tryz.results140
@[go_sem] theorem PX:(Dk.draws 7).order=hi140_7:=rfl
theorem Ay {s:GShow}{res:Bool}(h:jp s=some res):an Tryz.prog 140 [.agg (GShow.encS s)] [] (.lit (.bool res)) []:=by
 refine aj (ra:=[]) (md:=mdT) hT (hi:=Dk) Tryz.func140 rfl rfl (by decide +kernel) (by simp) ?_
 unfold jp at h
 obtain ⟨q10,l1,h⟩:=ae h
 simp(config:=cS)only[go_sem]
 refine ap (m1:=.mk) (m2:=.mk) [.nf [1,6,7,8] [64]] (nJ s.ties ((s.ties.length:Nat):Int) s.nodes s.horizon) l1 ?_ ?_
 ·simp(config:=cS)only[go_sem]
 ·intro nb2 v8_1 bb2 b2 gb2
  unfold eb at b2
  try dsimp only at b2
  obtain ⟨h3,b2⟩|⟨h3,b2⟩:=af b2
  ·obtain ⟨x01,g4,b2⟩:=ae b2
   obtain ⟨h5,h6,h7⟩:=al g4
   obtain ⟨r02,g8,b2⟩:=ae b2
   simp(config:=cS)only[go_sem,eqT h3,h5,h6,h7]
   refine ag (sP g8) ?_
   obtain ⟨h9,b2⟩|⟨h9,b2⟩:=af b2
   ·obtain ⟨r03,g10,b2⟩:=ae b2
    simp(config:=cS)only[go_sem,eqT h3,h5,h6,h7,eZt h9]
    refine ag (sP g10) ?_
    obtain ⟨h11,b2⟩|⟨h11,b2⟩:=af b2
    ·obtain ⟨h12,b2⟩|⟨h12,b2⟩:=af b2
     ·cases b2
      obtain rfl:=(ak gb2).symm
      try dsimp only at h
      cases h
      simp(config:=cS)only[go_sem,eqT h3,h5,h6,h7,eZt h9,eZt h11,eqT h12]
     ·obtain ⟨r04,g14,b2⟩:=ae b2
      simp(config:=cS)only[go_sem,eqT h3,h5,h6,h7,eZt h9,eZt h11,eqF h12]
      refine ag (sQ g14) ?_
      obtain ⟨h15,b2⟩|⟨h15,b2⟩:=af b2
      ·obtain ⟨r05,g16,b2⟩:=ae b2
       simp(config:=cS)only[go_sem,eqT h3,h5,h6,h7,eZt h9,eZt h11,eqF h12,eZt h15]
       refine ag (sQ g16) ?_
       obtain ⟨h17,b2⟩|⟨h17,b2⟩:=af b2
       ·obtain ⟨h18,b2⟩|⟨h18,b2⟩:=af b2
        ·cases b2
         obtain rfl:=(ak gb2).symm
         try dsimp only at h
         cases h
         simp(config:=cS)only[go_sem,eqT h3,h5,h6,h7,eZt h9,eZt h11,eqF h12,eZt h15,eZt h17,eqT h18]
        ·obtain ⟨h20,b2⟩|⟨h20,b2⟩:=af b2
         ·obtain ⟨h21,b2⟩|⟨h21,b2⟩:=af b2
          ·cases b2
           obtain rfl:=(ak gb2).symm
           try dsimp only at h
           cases h
           simp(config:=cS)only[go_sem,eqT h3,h5,h6,h7,eZt h9,eZt h11,eqF h12,eZt h15,eZt h17,eqF h18,eZt h20,eqT h21]
          ·obtain ⟨h23,b2⟩|⟨h23,b2⟩:=af b2
           ·cases b2
            obtain rfl:=(ak gb2).symm
            try dsimp only at h
            cases h
            simp(config:=cS)only[go_sem,eqT h3,h5,h6,h7,eZt h9,eZt h11,eqF h12,eZt h15,eZt h17,eqF h18,eZt h20,eqF h21,eqT h23]
           ·obtain ⟨x06,g25,b2⟩:=ae b2
            obtain ⟨h26,h27,h28⟩:=al g25
            obtain ⟨h29,b2⟩|⟨h29,b2⟩:=af b2
            ·obtain ⟨x07,g30,b2⟩:=ae b2
             obtain ⟨h31,h32,h33⟩:=al g30
             obtain ⟨r08,g34,b2⟩:=ae b2
             simp(config:=cS)only[go_sem,eqT h3,h5,h6,h7,eZt h9,eZt h11,eqF h12,eZt h15,eZt h17,eqF h18,eZt h20,eqF h21,eqF h23,h26,h27,h28,eqT h29,h31,h32,h33]
             refine ag (kK g34) ?_
             obtain ⟨h35,b2⟩|⟨h35,b2⟩:=af b2
             ·obtain ⟨h36,b2⟩:=ai b2
              obtain ⟨h37,b2⟩:=ai b2
              obtain ⟨r09,g38,b2⟩:=ae b2
              simp(config:=cS)only[go_sem,eqT h3,h5,h6,h7,eZt h9,eZt h11,eqF h12,eZt h15,eZt h17,eqF h18,eZt h20,eqF h21,eqF h23,h26,h27,h28,eqT h29,h31,h32,h33,eZt h35,eqT h36,eqT h37]
              refine ag (pS (by exact fun _ _ hr=>vy hr) (by refine ⟨fun _=>?_,fun _=>?_⟩ <;> simp only [go_sem]) (fun _=>rfl) rfl g38) ?_
              obtain ⟨h39,b2⟩|⟨h39,b2⟩:=af b2
              ·cases b2
               obtain rfl:=(ak gb2).symm
               try dsimp only at h
               cases h
               simp(config:=cS)only[go_sem,eqT h3,h5,h6,h7,eZt h9,eZt h11,eqF h12,eZt h15,eZt h17,eqF h18,eZt h20,eqF h21,eqF h23,h26,h27,h28,eqT h29,h31,h32,h33,eZt h35,eqT h36,eqT h37,eZt h39]
              ·cases b2
               simp(config:=cS)only[go_sem,eqT h3,h5,h6,h7,eZt h9,eZt h11,eqF h12,eZt h15,eZt h17,eqF h18,eZt h20,eqF h21,eqF h23,h26,h27,h28,eqT h29,h31,h32,h33,eZt h35,eqT h36,eqT h37,eZf h39]
               refine aq gb2 ?_
               simp(config:=cS)only[go_sem,eqT h3,h5,h6,h7,eZt h9,eZt h11,eqF h12,eZt h15,eZt h17,eqF h18,eZt h20,eqF h21,eqF h23,h26,h27,h28,eqT h29,h31,h32,h33,eZt h35,eqT h36,eqT h37,eZf h39]
             ·cases b2
              obtain rfl:=(ak gb2).symm
              try dsimp only at h
              cases h
              simp(config:=cS)only[go_sem,eqT h3,h5,h6,h7,eZt h9,eZt h11,eqF h12,eZt h15,eZt h17,eqF h18,eZt h20,eqF h21,eqF h23,h26,h27,h28,eqT h29,h31,h32,h33,eZf h35]
            ·cases b2
             obtain rfl:=(ak gb2).symm
             try dsimp only at h
             cases h
             simp(config:=cS)only[go_sem,eqT h3,h5,h6,h7,eZt h9,eZt h11,eqF h12,eZt h15,eZt h17,eqF h18,eZt h20,eqF h21,eqF h23,h26,h27,h28,eqF h29]
         ·cases b2
          simp(config:=cS)only[go_sem,eqT h3,h5,h6,h7,eZt h9,eZt h11,eqF h12,eZt h15,eZt h17,eqF h18,eZf h20]
          refine aq gb2 ?_
          simp(config:=cS)only[go_sem,eqT h3,h5,h6,h7,eZt h9,eZt h11,eqF h12,eZt h15,eZt h17,eqF h18,eZf h20]
       ·cases b2
        obtain rfl:=(ak gb2).symm
        try dsimp only at h
        cases h
        simp(config:=cS)only[go_sem,eqT h3,h5,h6,h7,eZt h9,eZt h11,eqF h12,eZt h15,eZf h17]
      ·cases b2
       obtain rfl:=(ak gb2).symm
       try dsimp only at h
       cases h
       simp(config:=cS)only[go_sem,eqT h3,h5,h6,h7,eZt h9,eZt h11,eqF h12,eZf h15]
    ·cases b2
     obtain rfl:=(ak gb2).symm
     try dsimp only at h
     cases h
     simp(config:=cS)only[go_sem,eqT h3,h5,h6,h7,eZt h9,eZf h11]
   ·cases b2
    obtain rfl:=(ak gb2).symm
    try dsimp only at h
    cases h
    simp(config:=cS)only[go_sem,eqT h3,h5,h6,h7,eZf h9]
  ·cases b2
   obtain rfl:=(ak gb2).symm
   try dsimp only at h
   cases h
   simp(config:=cS)only[go_sem,eqF h3]
def jj (c:List Int)(a:Nat)(b:List AV)(d e:Int):St:=⟨[(0,.sl (ab eI c)),(1,.fn a b),(7,.lit (.int .i64 d)),(8,.lit (.int .i64 e))],[],2⟩
attribute [go_sem] jj
attribute [go_sem] Tryz.ntmps228 Tryz.results228
theorem lH {v0:List Int}{v1:Int→Option Bool}{f_v1:Nat}{k_v1:List AV}(hp_v1:∀ y0 r,v1 y0=some r→an Tryz.prog f_v1 ([.lit (.int .i64 y0)]++k_v1) [] (.lit (.bool r)) [])(hc_v1:KC k_v1)(hm_v1:∀ a,mdT f_v1 a=⟨[],false⟩)(hk_v1:spf f_v1=false){res:Int}(h:bX v0 v1=some res):an Tryz.prog 228 [.sl (ab eI v0),.fn f_v1 k_v1] [] (.lit (.int .i64 res)) []:=by
 refine aj (ra:=[]) (md:=mdT) hT (hi:=hi00) Tryz.func228 rfl rfl (by decide +kernel) (by simp) ?_
 unfold bX at h
 obtain ⟨q03,l1,h⟩:=ae h
 simp(config:=cS)only[go_sem,hc_v1.1,hc_v1.2,hm_v1,hk_v1]
 refine ap (m1:=.mk) (m2:=.mk) [.nf [0,1,7,8] []] (jj v0 f_v1 k_v1 ((v0.length:Nat):Int)) l1 ?_ ?_
 ·simp(config:=cS)only[go_sem,hc_v1.1,hc_v1.2,hm_v1,hk_v1]
 ·intro nb2 v8_1 bb2 b2 gb2
  unfold bB at b2
  try dsimp only at b2
  obtain ⟨h3,b2⟩|⟨h3,b2⟩:=af b2
  ·obtain ⟨x01,g4,b2⟩:=ae b2
   obtain ⟨h5,h6,h7⟩:=al g4
   obtain ⟨r02,g8,b2⟩:=ae b2
   simp(config:=cS)only[go_sem,hc_v1.1,hc_v1.2,hm_v1,hk_v1,eqT h3,h5,h6,h7]
   refine ag (hp_v1 _ _ g8) ?_
   obtain ⟨h9,b2⟩|⟨h9,b2⟩:=af b2
   ·cases b2
    obtain rfl:=(ak gb2).symm
    try dsimp only at h
    cases h
    simp(config:=cS)only[go_sem,hc_v1.1,hc_v1.2,hm_v1,hk_v1,eqT h3,h5,h6,h7,eZt h9]
   ·cases b2
    simp(config:=cS)only[go_sem,hc_v1.1,hc_v1.2,hm_v1,hk_v1,eqT h3,h5,h6,h7,eZf h9]
    refine aq gb2 ?_
    simp(config:=cS)only[go_sem,hc_v1.1,hc_v1.2,hm_v1,hk_v1,eqT h3,h5,h6,h7,eZf h9]
  ·cases b2
   obtain rfl:=(ak gb2).symm
   try dsimp only at h
   cases h
   simp(config:=cS)only[go_sem,hc_v1.1,hc_v1.2,hm_v1,hk_v1,eqF h3]
attribute [go_sem] Tryz.ntmps141 Tryz.results141
theorem gz {v0:List Int}{v1:Int→Option Bool}{f_v1:Nat}{k_v1:List AV}(hp_v1:∀ y0 r,v1 y0=some r→an Tryz.prog f_v1 ([.lit (.int .i64 y0)]++k_v1) [] (.lit (.bool r)) [])(hc_v1:KC k_v1)(hm_v1:∀ a,mdT f_v1 a=⟨[],false⟩)(hk_v1:spf f_v1=false){res:Bool}(h:aZ v0 v1=some res):an Tryz.prog 141 [.sl (ab eI v0),.fn f_v1 k_v1] [] (.lit (.bool res)) []:=by
 refine aj (ra:=[]) (md:=mdT) hT (hi:=hi00) Tryz.func141 rfl rfl (by decide +kernel) (by simp) ?_
 unfold aZ at h
 obtain ⟨r01,g1,h⟩:=ae h
 simp(config:=cS)only[go_sem,hc_v1.1,hc_v1.2,hm_v1,hk_v1]
 refine ag (lH hp_v1 hc_v1 hm_v1 hk_v1 g1) ?_
 cases h
 simp(config:=cS)only[go_sem]
def iS (c:List GNode)(a:Nat)(b:List AV)(d e:Int):St:=⟨[(0,.sl (ab GNode.encS c)),(1,.fn a b),(7,.lit (.int .i64 d)),(8,.lit (.int .i64 e))],[],2⟩
attribute [go_sem] iS
attribute [go_sem] Tryz.ntmps231 Tryz.results231
theorem qB {v0:List GNode}{v1:GNode→Option Bool}{f_v1:Nat}{k_v1:List AV}(hp_v1:∀ y0 r,v1 y0=some r→an Tryz.prog f_v1 ([.agg (GNode.encS y0)]++k_v1) [] (.lit (.bool r)) [])(hc_v1:KC k_v1)(hm_v1:∀ a,mdT f_v1 a=⟨[],false⟩)(hk_v1:spf f_v1=false){res:Int}(h:cH v0 v1=some res):an Tryz.prog 231 [.sl (ab GNode.encS v0),.fn f_v1 k_v1] [] (.lit (.int .i64 res)) []:=by
 refine aj (ra:=[]) (md:=mdT) hT (hi:=hi00) Tryz.func231 rfl rfl (by decide +kernel) (by simp) ?_
 unfold cH at h
 obtain ⟨q03,l1,h⟩:=ae h
 simp(config:=cS)only[go_sem,hc_v1.1,hc_v1.2,hm_v1,hk_v1]
 refine ap (m1:=.mk) (m2:=.mk) [.nf [0,1,7,8] []] (iS v0 f_v1 k_v1 ((v0.length:Nat):Int)) l1 ?_ ?_
 ·simp(config:=cS)only[go_sem,hc_v1.1,hc_v1.2,hm_v1,hk_v1]
 ·intro nb2 v8_1 bb2 b2 gb2
  unfold bu at b2
  try dsimp only at b2
  obtain ⟨h3,b2⟩|⟨h3,b2⟩:=af b2
  ·obtain ⟨x01,g4,b2⟩:=ae b2
   obtain ⟨h5,h6,h7⟩:=al g4
   obtain ⟨r02,g8,b2⟩:=ae b2
   simp(config:=cS)only[go_sem,hc_v1.1,hc_v1.2,hm_v1,hk_v1,eqT h3,h5,h6,h7]
   refine ag (hp_v1 _ _ g8) ?_
   obtain ⟨h9,b2⟩|⟨h9,b2⟩:=af b2
   ·cases b2
    obtain rfl:=(ak gb2).symm
    try dsimp only at h
    cases h
    simp(config:=cS)only[go_sem,hc_v1.1,hc_v1.2,hm_v1,hk_v1,eqT h3,h5,h6,h7,eZt h9]
   ·cases b2
    simp(config:=cS)only[go_sem,hc_v1.1,hc_v1.2,hm_v1,hk_v1,eqT h3,h5,h6,h7,eZf h9]
    refine aq gb2 ?_
    simp(config:=cS)only[go_sem,hc_v1.1,hc_v1.2,hm_v1,hk_v1,eqT h3,h5,h6,h7,eZf h9]
  ·cases b2
   obtain rfl:=(ak gb2).symm
   try dsimp only at h
   cases h
   simp(config:=cS)only[go_sem,hc_v1.1,hc_v1.2,hm_v1,hk_v1,eqF h3]
attribute [go_sem] Tryz.ntmps232 Tryz.results232
theorem vz {n:GNode}{p:Int}{res:Bool}(h:iX n p=some res):an Tryz.prog 232 [.agg (GNode.encS n),.loc [.lit (.int .i64 p)]] [] (.lit (.bool res)) []:=by
 refine aj (ra:=[]) (md:=mdT) hT (hi:=hi00) Tryz.func232 rfl rfl (by decide +kernel) (by simp) ?_
 unfold iX at h
 obtain ⟨h1,h⟩|⟨h1,h⟩:=af h
 ·cases h
  simp(config:=cS)only[go_sem,eqT h1]
 ·cases h
  simp(config:=cS)only[go_sem,eqF h1]
attribute [go_sem] Tryz.ntmps145 Tryz.results145
theorem Az {s:GShow}{p res:Int}(h:jq s p=some res):an Tryz.prog 145 [.agg (GShow.encS s),.lit (.int .i64 p)] [] (.lit (.int .i64 res)) []:=by
 refine aj (ra:=[]) (md:=mdT) hT (hi:=hi00) Tryz.func145 rfl rfl (by decide +kernel) (by simp) ?_
 unfold jq at h
 obtain ⟨r01,g1,h⟩:=ae h
 simp(config:=cS)only[go_sem]
 refine ag (qB (by exact fun _ _ hr=>vz hr) (by refine ⟨fun _=>?_,fun _=>?_⟩ <;> simp only [go_sem]) (fun _=>rfl) rfl g1) ?_
 cases h
 simp(config:=cS)only[go_sem]
def kL (a:List Int)(b c d:Int):St:=⟨[(0,.sl (ab eI a)),(1,.lit (.int .i64 b)),(7,.lit (.int .i64 c)),(8,.lit (.int .i64 d))],[],2⟩
attribute [go_sem] kL
attribute [go_sem] Tryz.ntmps189 Tryz.results189
theorem ue {v0:List Int}{v1 res:Int}(h:fv v0 v1=some res):an Tryz.prog 189 [.sl (ab eI v0),.lit (.int .i64 v1)] [] (.lit (.int .i64 res)) []:=by
 refine aj (ra:=[]) (md:=mdT) hT (hi:=hi00) Tryz.func189 rfl rfl (by decide +kernel) (by simp) ?_
 unfold fv at h
 obtain ⟨q02,l1,h⟩:=ae h
 simp(config:=cS)only[go_sem]
 refine ap (m1:=.mk) (m2:=.mk) [.nf [0,1,7,8] []] (kL v0 v1 ((v0.length:Nat):Int)) l1 ?_ ?_
 ·simp(config:=cS)only[go_sem]
 ·intro nb2 v8_1 bb2 b2 gb2
  unfold ch at b2
  try dsimp only at b2
  obtain ⟨h3,b2⟩|⟨h3,b2⟩:=af b2
  ·obtain ⟨x01,g4,b2⟩:=ae b2
   obtain ⟨h5,h6,h7⟩:=al g4
   obtain ⟨h8,b2⟩|⟨h8,b2⟩:=af b2
   ·cases b2
    obtain rfl:=(ak gb2).symm
    try dsimp only at h
    cases h
    simp(config:=cS)only[go_sem,eqT h3,h5,h6,h7,eqT h8]
   ·cases b2
    simp(config:=cS)only[go_sem,eqT h3,h5,h6,h7,eqF h8]
    refine aq gb2 ?_
    simp(config:=cS)only[go_sem]
  ·cases b2
   obtain rfl:=(ak gb2).symm
   try dsimp only at h
   cases h
   simp(config:=cS)only[go_sem,eqF h3]
attribute [go_sem] Tryz.ntmps229 Tryz.results229
theorem jk {v0:List Int}{v1:Int}{res:Bool}(h:bJ v0 v1=some res):an Tryz.prog 229 [.sl (ab eI v0),.lit (.int .i64 v1)] [] (.lit (.bool res)) []:=by
 refine aj (ra:=[]) (md:=mdT) hT (hi:=hi00) Tryz.func229 rfl rfl (by decide +kernel) (by simp) ?_
 unfold bJ at h
 obtain ⟨r01,g1,h⟩:=ae h
 simp(config:=cS)only[go_sem]
 refine ag (ue g1) ?_
 cases h
 simp(config:=cS)only[go_sem]
attribute [go_sem] Tryz.ntmps276 Tryz.results276
theorem rg {v0:Int}{a:List Int}{res:Bool}(h:fb v0 a=some res):an Tryz.prog 276 [.lit (.int .i64 v0),.loc [.sl (ab eI a)]] [] (.lit (.bool res)) []:=by
 refine aj (ra:=[]) (md:=mdT) hT (hi:=hi00) Tryz.func276 rfl rfl (by decide +kernel) (by simp) ?_
 unfold fb at h
 obtain ⟨r01,g1,h⟩:=ae h
 simp(config:=cS)only[go_sem]
 refine ag (jk g1) ?_
 cases h
 simp(config:=cS)only[go_sem]
attribute [go_sem] Tryz.ntmps230 Tryz.results230
theorem tf {a b:List Int}{res:Bool}(h:eD a b=some res):an Tryz.prog 230 [.sl (ab eI a),.sl (ab eI b)] [] (.lit (.bool res)) []:=by
 refine aj (ra:=[]) (md:=mdT) hT (hi:=hi00) Tryz.func230 rfl rfl (by decide +kernel) (by simp) ?_
 unfold eD at h
 obtain ⟨r01,g1,h⟩:=ae h
 simp(config:=cS)only[go_sem]
 refine ag (jh g1) ?_
 obtain ⟨h2,h⟩|⟨h2,h⟩:=af h
 ·obtain ⟨r02,g3,h⟩:=ae h
  simp(config:=cS)only[go_sem,eZt h2]
  refine ag (jh g3) ?_
  obtain ⟨h4,h⟩|⟨h4,h⟩:=af h
  ·obtain ⟨r03,g5,h⟩:=ae h
   simp(config:=cS)only[go_sem,eZt h2,eZt h4]
   refine ag (gz (by exact fun _ _ hr=>rg hr) (by refine ⟨fun _=>?_,fun _=>?_⟩ <;> simp only [go_sem]) (fun _=>rfl) rfl g5) ?_
   cases h
   simp(config:=cS)only[go_sem,eZt h2,eZt h4]
  ·cases h
   simp(config:=cS)only[go_sem,eZt h2,eZf h4]
 ·cases h
  simp(config:=cS)only[go_sem,eZf h2]
@[go_sem] def hi143_1:DT:=.i1 0 (.i2 1 (.i0 2 [0] (.i2 3 (.i2 4 .nil))))
def Dl:Hint where
 acts:=fun _=>[]
 draws:=fun
  | 1=>⟨hi143_1,[[],[],[1],[0,1,2],[0,1,2,3]],.range 5⟩
  | _=>⟨.nil,[],[]⟩
theorem NR (i:Nat):Dl.acts i=[]:=rfl
theorem NS (i:Nat):Dl.views i=none:=rfl
attribute [go_sem] NR NS Tryz.ntmps143 Tryz.results143
@[go_sem] theorem PY:(Dl.draws 1).order=hi143_1:=rfl
theorem wY {s:GShow}{label:List Int}{v2:Int}{res:Bool}(h:gU s label v2=some res):an Tryz.prog 143 [.agg (GShow.encS s),.sl (ab eI label),.lit (.int .i64 v2)] [] (.lit (.bool res)) []:=by
 refine aj (ra:=[]) (md:=mdT) hT (hi:=Dl) Tryz.func143 rfl rfl (by decide +kernel) (by simp) ?_
 unfold gU at h
 obtain ⟨r01,g1,h⟩:=ae h
 simp(config:=cS)only[go_sem]
 refine ag (ia g1) ?_
 obtain ⟨r02,g2,h⟩:=ae h
 simp(config:=cS)only[go_sem]
 refine ag (Az g2) ?_
 obtain ⟨h3,h⟩|⟨h3,h⟩:=af h
 ·cases h
  simp(config:=cS)only[go_sem,eqT h3]
 ·obtain ⟨x03,g4,h⟩:=ae h
  obtain ⟨h5,h6,h7⟩:=al g4
  obtain ⟨r04,g8,h⟩:=ae h
  simp(config:=cS)only[go_sem,eqF h3,h5,h6,h7]
  refine ag (jk g8) ?_
  obtain ⟨h9,h⟩|⟨h9,h⟩:=af h
  ·cases h
   simp(config:=cS)only[go_sem,eqF h3,h5,h6,h7,eZt h9]
  ·obtain ⟨r05,g10,h⟩:=ae h
   simp(config:=cS)only[go_sem,eqF h3,h5,h6,h7,eZf h9]
   refine ag (jk g10) ?_
   obtain ⟨h11,h⟩|⟨h11,h⟩:=af h
   ·cases h
    simp(config:=cS)only[go_sem,eqF h3,h5,h6,h7,eZf h9,eZt h11]
   ·obtain ⟨r06,g12,h⟩:=ae h
    simp(config:=cS)only[go_sem,eqF h3,h5,h6,h7,eZf h9,eZf h11]
    refine ag (tf g12) ?_
    cases h
    simp(config:=cS)only[go_sem,eqF h3,h5,h6,h7,eZf h9,eZf h11]
attribute [go_sem] Tryz.ntmps142 Tryz.results142
theorem wZ {v0:Int}{s:GShow}{n:GNode}{res:Bool}(h:gV v0 s n=some res):an Tryz.prog 142 [.lit (.int .i64 v0),.loc [.sl (ab GNode.encS s.nodes),.sl (ab GTie.enc s.ties),.lit (.int .i64 s.horizon)],.loc [.lit (.string n.name),.sl (ab eI n.label),.lit (.int .i64 n.watch)]] [] (.lit (.bool res)) []:=by
 refine aj (ra:=[]) (md:=mdT) hT (hi:=hi00) Tryz.func142 rfl rfl (by decide +kernel) (by simp) ?_
 unfold gV at h
 obtain ⟨r01,g1,h⟩:=ae h
 simp(config:=cS)only[go_sem]
 refine ag (wY g1) ?_
 cases h
 simp(config:=cS)only[go_sem]
def ol (a:List GNode)(b:Int)(c:List GTie)(d e:Int):St:=⟨[(1,.ptr 64 1 0 0),(24,.sl (ab GNode.encS a)),(25,.lit (.int .i64 b)),(26,.lit (.int .i64 e))],[(64,1,.var [.sl (ab GNode.encS a),.sl (ab GTie.enc c),.lit (.int .i64 d)])],2⟩
attribute [go_sem] ol
attribute [go_sem] Tryz.ntmps67 Tryz.results67
theorem sR {s:GShow}{res:Bool}(h:ig s=some res):an Tryz.prog 67 [.agg (GShow.encS s)] [] (.lit (.bool res)) []:=by
 refine aj (ra:=[]) (md:=mdT) hT (hi:=hi00) Tryz.func67 rfl rfl (by decide +kernel) (by simp) ?_
 unfold ig at h
 obtain ⟨r01,g1,h⟩:=ae h
 simp(config:=cS)only[go_sem]
 refine ag (yZ g1) ?_
 obtain ⟨h2,h⟩|⟨h2,h⟩:=af h
 ·obtain ⟨r02,g3,h⟩:=ae h
  simp(config:=cS)only[go_sem,eZt h2]
  refine ag (Ay g3) ?_
  obtain ⟨h4,h⟩|⟨h4,h⟩:=af h
  ·obtain ⟨h5,h⟩|⟨h5,h⟩:=af h
   ·cases h
    simp(config:=cS)only[go_sem,eZt h2,eZt h4,eqT h5]
   ·obtain ⟨h6,h⟩|⟨h6,h⟩:=af h
    ·cases h
     simp(config:=cS)only[go_sem,eZt h2,eZt h4,eqF h5,eqT h6]
    ·obtain ⟨q05,l7,h⟩:=ae h
     simp(config:=cS)only[go_sem,eZt h2,eZt h4,eqF h5,eqF h6]
     refine ap (m1:=.mk) (m2:=.mk) [.nf [1,24,25,26] [64]] (ol s.nodes ((s.nodes.length:Nat):Int) s.ties s.horizon) l7 ?_ ?_
     ·simp(config:=cS)only[go_sem,eZt h2,eZt h4,eqF h5,eqF h6]
     ·intro nb8 v26_1 bb8 b8 gb8
      unfold eX at b8
      try dsimp only at b8
      obtain ⟨h9,b8⟩|⟨h9,b8⟩:=af b8
      ·obtain ⟨x03,g10,b8⟩:=ae b8
       obtain ⟨h11,h12,h13⟩:=al g10
       obtain ⟨r04,g14,b8⟩:=ae b8
       simp(config:=cS)only[go_sem,eZt h2,eZt h4,eqF h5,eqF h6,eqT h9,h11,h12,h13]
       refine ag (gz (by exact fun _ _ hr=>wZ hr) (by refine ⟨fun _=>?_,fun _=>?_⟩ <;> simp only [go_sem]) (fun _=>rfl) rfl g14) ?_
       obtain ⟨h15,b8⟩|⟨h15,b8⟩:=af b8
       ·cases b8
        obtain rfl:=(ak gb8).symm
        try dsimp only at h
        cases h
        simp(config:=cS)only[go_sem,eZt h2,eZt h4,eqF h5,eqF h6,eqT h9,h11,h12,h13,eZt h15]
       ·cases b8
        simp(config:=cS)only[go_sem,eZt h2,eZt h4,eqF h5,eqF h6,eqT h9,h11,h12,h13,eZf h15]
        refine aq gb8 ?_
        simp(config:=cS)only[go_sem,eZt h2,eZt h4,eqF h5,eqF h6,eqT h9,h11,h12,h13,eZf h15]
      ·cases b8
       obtain rfl:=(ak gb8).symm
       try dsimp only at h
       cases h
       simp(config:=cS)only[go_sem,eZt h2,eZt h4,eqF h5,eqF h6,eqF h9]
  ·cases h
   simp(config:=cS)only[go_sem,eZt h2,eZf h4]
 ·cases h
  simp(config:=cS)only[go_sem,eZf h2]
attribute [go_sem] Tryz.ntmps301 Tryz.results301
theorem Ee {v0 y:Int}{res:Int × Int}(h:qp v0 y=some res):an Tryz.prog 301 [.lit (.int .u64 v0),.lit (.int .u64 y)] [] (.tup [.lit (.int .u64 res.1),.lit (.int .u64 res.2)]) []:=by
 refine aj (ra:=[]) (md:=mdT) hT (hi:=hi00) Tryz.func301 rfl rfl (by decide +kernel) (by simp) ?_
 unfold qp at h
 cases h
 simp(config:=cS)only[go_sem]
attribute [go_sem] Tryz.ntmps261 Tryz.results261
theorem Hn {v0 y:Int}{res:Int × Int}(h:fc v0 y=some res):an Tryz.prog 261 [.lit (.int .u64 v0),.lit (.int .u64 y)] [] (.tup [.lit (.int .u64 res.1),.lit (.int .u64 res.2)]) []:=by
 refine aj (ra:=[]) (md:=mdT) hT (hi:=hi00) Tryz.func261 rfl rfl (by decide +kernel) (by simp) ?_
 unfold fc at h
 obtain ⟨r01,g1,h⟩:=ae h
 simp(config:=cS)only[go_sem]
 refine ag (Ee g1) ?_
 cases h
 simp(config:=cS)only[go_sem]
def ku  : (Int × (List Int))→St
 | (b,a)=>⟨[(7,.ref 1920 1 0 a.length),(8,.lit (.int .i64 b))],[(1920,1,.row true (ab eI a))],2⟩
attribute [go_sem] ku
@[go_sem] def hi190_9:DT:=.i2 0 (.i2 1 (.i2 2 (.i2 3 (.i2 4 (.i2 5 (.i2 6 (.i2 7 (.i2 8 (.i2 9 .nil)))))))))
def Dm:Hint where
 acts:=fun _=>[]
 draws:=fun
  | 9=>⟨hi190_9,[[],[],[],[1,2],[],[],[4,5],[1,2,3,4,5,6],.range 8,.range 9],.range 10⟩
  | _=>⟨.nil,[],[]⟩
theorem NT (i:Nat):Dm.acts i=[]:=rfl
theorem NU (i:Nat):Dm.views i=none:=rfl
attribute [go_sem] NT NU Tryz.ntmps190 Tryz.results190
@[go_sem] theorem PZ:(Dm.draws 9).order=hi190_9:=rfl
theorem aY {v0:List Int}{v1:Int}{res:List Int}(h:aI v0 v1=some res):an Tryz.prog 190 [.sl (ab eI v0),.lit (.int .i64 v1)] [] (.ref 20000 1 0 res.length) [(20000,1,.row true (ab eI res))]:=by
 refine aj (ra:=[.home 4]) (md:=mdT) hT (hi:=Dm) Tryz.func190 rfl rfl (by decide +kernel) (by simp) ?_
 unfold aI at h
 obtain ⟨h1,h⟩|⟨h1,h⟩:=af h
 ·cases h
 ·obtain ⟨r01,g2,h⟩:=ae h
  simp(config:=cS)only[go_sem,eqF h1]
  refine ag (Hn g2) ?_
  obtain ⟨h3,h⟩|⟨h3,h⟩:=af h
  ·cases h
  ·obtain ⟨h4,h⟩|⟨h4,h⟩:=af h
   ·cases h
   ·obtain ⟨h5,h⟩:=ai h
    obtain ⟨h6,h⟩:=ai h
    obtain ⟨h7,h⟩:=ai h
    obtain ⟨q02,l8,h⟩:=ae h
    simp(config:=cS)only[go_sem,eqF h3,eqF h4,eqT h5,eqT h6,eqT h7]
    refine ap (m1:=.mk) (m2:=.mk) [.nf [7,8] [1920]] (ku) l8 ?_ ?_
    ·simp(config:=cS)only[go_sem]
    ·intro nb9 sb9 bb9 b9 gb9
     obtain ⟨v8_1,v7_1⟩:=sb9
     unfold ay at b9
     try dsimp only at b9
     obtain ⟨h10,b9⟩|⟨h10,b9⟩:=af b9
     ·obtain ⟨h11,b9⟩:=ai b9
      obtain ⟨h12,b9⟩:=ai b9
      obtain ⟨h13,b9⟩:=ai b9
      cases b9
      simp(config:=cS)only[go_sem,eqT h10,eqT h11,eqT h12,eqT h13]
      refine aq gb9 ?_
      simp(config:=cS)only[go_sem]
     ·cases b9
      obtain rfl:=(ak gb9).symm
      try dsimp only at h
      cases h
      simp(config:=cS)only[go_sem,eqF h10]
@[go_sem] def hi109_3:DT:=.i1 1 (.i1 2 (.i1 3 (.fork (.i0 0 [1,2,3] (.fork (.i2 4 (.fork (.i0 5 [1,2,3] (.i2 6 (.i0 7 [1,2,3] (.i2 8 .nil)))) (.i0 7 [1,2,3] (.i0 5 [1,2,3] (.i2 6 (.i2 8 .nil)))))) (.fork (.i0 5 [1,2,3] (.fork (.i2 4 (.i2 6 (.i0 7 [1,2,3] (.i2 8 .nil)))) (.i0 7 [1,2,3] (.i2 4 (.i2 6 (.i2 8 .nil)))))) (.i0 7 [1,2,3] (.fork (.i2 4 (.i0 5 [1,2,3] (.i2 6 (.i2 8 .nil)))) (.i0 5 [1,2,3] (.i2 4 (.i2 6 (.i2 8 .nil))))))))) (.fork (.i0 5 [1,2,3] (.fork (.i0 0 [1,2,3] (.fork (.i2 4 (.i2 6 (.i0 7 [1,2,3] (.i2 8 .nil)))) (.i0 7 [1,2,3] (.i2 4 (.i2 6 (.i2 8 .nil)))))) (.i0 7 [1,2,3] (.i0 0 [1,2,3] (.i2 4 (.i2 6 (.i2 8 .nil))))))) (.i0 7 [1,2,3] (.fork (.i0 0 [1,2,3] (.fork (.i2 4 (.i0 5 [1,2,3] (.i2 6 (.i2 8 .nil)))) (.i0 5 [1,2,3] (.i2 4 (.i2 6 (.i2 8 .nil)))))) (.i0 5 [1,2,3] (.i0 0 [1,2,3] (.i2 4 (.i2 6 (.i2 8 .nil)))))))))))
def Dn:Hint where
 acts:=fun _=>[]
 draws:=fun
  | 3=>⟨hi109_3,[[],[],[1],[1,2],[0,1,2,3],[],.range 6,[],.range 8],.range 9⟩
  | _=>⟨.nil,[],[]⟩
theorem NV (i:Nat):Dn.acts i=[]:=rfl
theorem NW (i:Nat):Dn.views i=none:=rfl
attribute [go_sem] NV NW Tryz.ntmps109 Tryz.results109
@[go_sem] theorem Qa:(Dn.draws 3).order=hi109_3:=rfl
theorem vA {s:GShow}{res:GState}(h:gg s=some res):an Tryz.prog 109 [.agg (GShow.encS s)] [] (.agg [.lit (.int .i64 res.now),.ref 20000 1 0 res.times.length,.ref 20001 1 0 res.values.length]) [(20000,1,.row true (ab eI res.times)),(20001,1,.row true (ab eI res.values))]:=by
 refine aj (ra:=[.homeCell 128 1,.homeCell 128 2]) (md:=mdT) hT (hi:=Dn) Tryz.func109 rfl rfl (by decide +kernel) (by simp) ?_
 unfold gg at h
 obtain ⟨r01,g1,h⟩:=ae h
 simp(config:=cS)only[go_sem]
 refine ag (sR g1) ?_
 obtain ⟨h2,h⟩|⟨h2,h⟩:=af h
 ·try simp(config:=cS)only[go_sem,eZt h2]
  refine fi ?_ ?_
  ·try simp(config:=cS)only[go_sem]
   refine fi ?_ ?_
   ·obtain ⟨r02,g3,h⟩:=ae h
    simp(config:=cS)only[go_sem]
    refine ag (aY g3) ?_
    try simp(config:=cS)only[go_sem]
    refine fi ?_ ?_
    ·obtain ⟨x03,g4,h⟩:=ae h
     obtain ⟨h6,h7⟩:=bo (k:=0) g4
     cases h
     simp(config:=cS)only[go_sem,h6,h7]
    ·obtain ⟨x04,g8,h⟩:=ae h
     obtain ⟨h10,h11⟩:=bo (k:=0) g8
     cases h
     simp(config:=cS)only[go_sem,h10,h11]
   ·try simp(config:=cS)only[go_sem]
    refine fi ?_ ?_
    ·try simp(config:=cS)only[go_sem]
     refine fi ?_ ?_
     ·obtain ⟨r05,g12,h⟩:=ae h
      simp(config:=cS)only[go_sem]
      refine ag (aY g12) ?_
      obtain ⟨x06,g13,h⟩:=ae h
      obtain ⟨h15,h16⟩:=bo (k:=0) g13
      cases h
      simp(config:=cS)only[go_sem,h15,h16]
     ·obtain ⟨r07,g17,h⟩:=ae h
      simp(config:=cS)only[go_sem]
      refine ag (aY g17) ?_
      obtain ⟨x08,g18,h⟩:=ae h
      obtain ⟨h20,h21⟩:=bo (k:=0) g18
      cases h
      simp(config:=cS)only[go_sem,h20,h21]
    ·try simp(config:=cS)only[go_sem]
     refine fi ?_ ?_
     ·obtain ⟨r09,g22,h⟩:=ae h
      simp(config:=cS)only[go_sem]
      refine ag (aY g22) ?_
      obtain ⟨x10,g23,h⟩:=ae h
      obtain ⟨h25,h26⟩:=bo (k:=0) g23
      cases h
      simp(config:=cS)only[go_sem,h25,h26]
     ·obtain ⟨r11,g27,h⟩:=ae h
      simp(config:=cS)only[go_sem]
      refine ag (aY g27) ?_
      obtain ⟨x12,g28,h⟩:=ae h
      obtain ⟨h30,h31⟩:=bo (k:=0) g28
      cases h
      simp(config:=cS)only[go_sem,h30,h31]
  ·try simp(config:=cS)only[go_sem]
   refine fi ?_ ?_
   ·try simp(config:=cS)only[go_sem]
    refine fi ?_ ?_
    ·try simp(config:=cS)only[go_sem]
     refine fi ?_ ?_
     ·obtain ⟨r13,g32,h⟩:=ae h
      simp(config:=cS)only[go_sem]
      refine ag (aY g32) ?_
      obtain ⟨x14,g33,h⟩:=ae h
      obtain ⟨h35,h36⟩:=bo (k:=0) g33
      cases h
      simp(config:=cS)only[go_sem,h35,h36]
     ·obtain ⟨r15,g37,h⟩:=ae h
      simp(config:=cS)only[go_sem]
      refine ag (aY g37) ?_
      obtain ⟨x16,g38,h⟩:=ae h
      obtain ⟨h40,h41⟩:=bo (k:=0) g38
      cases h
      simp(config:=cS)only[go_sem,h40,h41]
    ·obtain ⟨r17,g42,h⟩:=ae h
     simp(config:=cS)only[go_sem]
     refine ag (aY g42) ?_
     obtain ⟨x18,g43,h⟩:=ae h
     obtain ⟨h45,h46⟩:=bo (k:=0) g43
     cases h
     simp(config:=cS)only[go_sem,h45,h46]
   ·try simp(config:=cS)only[go_sem]
    refine fi ?_ ?_
    ·try simp(config:=cS)only[go_sem]
     refine fi ?_ ?_
     ·obtain ⟨r19,g47,h⟩:=ae h
      simp(config:=cS)only[go_sem]
      refine ag (aY g47) ?_
      obtain ⟨x20,g48,h⟩:=ae h
      obtain ⟨h50,h51⟩:=bo (k:=0) g48
      cases h
      simp(config:=cS)only[go_sem,h50,h51]
     ·obtain ⟨r21,g52,h⟩:=ae h
      simp(config:=cS)only[go_sem]
      refine ag (aY g52) ?_
      obtain ⟨x22,g53,h⟩:=ae h
      obtain ⟨h55,h56⟩:=bo (k:=0) g53
      cases h
      simp(config:=cS)only[go_sem,h55,h56]
    ·obtain ⟨r23,g57,h⟩:=ae h
     simp(config:=cS)only[go_sem]
     refine ag (aY g57) ?_
     obtain ⟨x24,g58,h⟩:=ae h
     obtain ⟨h60,h61⟩:=bo (k:=0) g58
     cases h
     simp(config:=cS)only[go_sem,h60,h61]
 ·cases h
  simp(config:=cS)only[go_sem,eZf h2]
def om (g:List GTie)(e b:Int)(c d:List Int):(Int × (List Int))→St
 | (f,a)=>⟨[(3,.ptr 192 1 0 0),(5,.ref 383 1 0 a.length),(9,.sl (ab GTie.enc g)),(10,.lit (.int .i64 e)),(11,.lit (.int .i64 f))],[(192,1,.var [.lit (.int .i64 b),.sl (ab eI c),.sl (ab eI d)]),(383,1,.row true (ab eI a))],2⟩
attribute [go_sem] om
attribute [go_sem] Tryz.ntmps187 Tryz.results187
theorem Cq {s:GShow}{v1:GState}{res:List Int}(h:ke s v1=some res):an Tryz.prog 187 [.agg (GShow.encS s),.agg (GState.encS v1)] [] (.ref 20000 1 0 res.length) [(20000,1,.row true (ab eI res))]:=by
 refine aj (ra:=[.home 4]) (md:=mdT) hT (hi:=hi00) Tryz.func187 rfl rfl (by decide +kernel) (by simp) ?_
 unfold ke at h
 obtain ⟨q04,l1,h⟩:=ae h
 simp(config:=cS)only[go_sem]
 refine ap (m1:=.mk) (m2:=.mk) [.home 5,.nf [3,5,9,10,11] [192,383]] (om s.ties ((s.ties.length:Nat):Int) v1.now v1.times v1.values) l1 ?_ ?_
 ·simp(config:=cS)only[go_sem]
 ·intro nb2 sb2 bb2 b2 gb2
  obtain ⟨v11_1,out_1⟩:=sb2
  unfold gW at b2
  try dsimp only at b2
  obtain ⟨h3,b2⟩|⟨h3,b2⟩:=af b2
  ·obtain ⟨x01,g4,b2⟩:=ae b2
   obtain ⟨h5,h6,h7⟩:=al g4
   obtain ⟨h8,b2⟩|⟨h8,b2⟩:=af b2
   ·obtain ⟨x02,g9,b2⟩:=ae b2
    obtain ⟨h10,h11,h12⟩:=al g9
    obtain ⟨h13,b2⟩|⟨h13,b2⟩:=af b2
    ·cases b2
     simp(config:=cS)only[go_sem,eqT h3,h5,h6,h7,eZt h8,h10,h11,h12,eqT h13]
     refine aq gb2 ?_
     simp(config:=cS)only[go_sem]
    ·obtain ⟨x03,g14,b2⟩:=ae b2
     obtain ⟨h15,h16,h17⟩:=al g14
     obtain ⟨h18,b2⟩|⟨h18,b2⟩:=af b2
     ·obtain ⟨h19,b2⟩:=ai b2
      obtain ⟨h20,b2⟩:=ai b2
      cases b2
      simp(config:=cS)only[go_sem,eqT h3,h5,h6,h7,eZt h8,h10,h11,h12,eqF h13,h15,h16,h17,eqT h18,eqT h19,eqT h20]
      refine aq gb2 ?_
      simp(config:=cS)only[go_sem]
     ·cases b2
      simp(config:=cS)only[go_sem,eqT h3,h5,h6,h7,eZt h8,h10,h11,h12,eqF h13,h15,h16,h17,eqF h18]
      refine aq gb2 ?_
      simp(config:=cS)only[go_sem]
   ·cases b2
    simp(config:=cS)only[go_sem,eqT h3,h5,h6,h7,eZf h8]
    refine aq gb2 ?_
    simp(config:=cS)only[go_sem]
  ·cases b2
   obtain rfl:=(ak gb2).symm
   try dsimp only at h
   cases h
   simp(config:=cS)only[go_sem,eqF h3]
def nK (b:Int)(d:List Int)(e:Int):(Int × (List Int))→St
 | (c,a)=>⟨[(1,.lit (.int .i64 b)),(5,.ref 383 1 0 a.length),(8,.sl (ab eI d)),(9,.lit (.int .i64 e)),(10,.lit (.int .i64 c))],[(383,1,.row true (ab eI a))],2⟩
attribute [go_sem] nK
attribute [go_sem] Tryz.ntmps265 Tryz.results265
theorem rI {list:List Int}{set:Int}{res:List Int}(h:gK list set=some res):an Tryz.prog 265 [.sl (ab eI list),.lit (.int .i64 set)] [] (.ref 20000 1 0 res.length) [(20000,1,.row true (ab eI res))]:=by
 refine aj (ra:=[.home 4]) (md:=mdT) hT (hi:=hi00) Tryz.func265 rfl rfl (by decide +kernel) (by simp) ?_
 unfold gK at h
 obtain ⟨q02,l1,h⟩:=ae h
 simp(config:=cS)only[go_sem]
 refine ap (m1:=.mk) (m2:=.mk) [.home 5,.nf [1,5,8,9,10] [383]] (nK set list ((list.length:Nat):Int)) l1 ?_ ?_
 ·simp(config:=cS)only[go_sem]
 ·intro nb2 sb2 bb2 b2 gb2
  obtain ⟨v10_1,out_1⟩:=sb2
  unfold gh at b2
  try dsimp only at b2
  obtain ⟨h3,b2⟩|⟨h3,b2⟩:=af b2
  ·obtain ⟨x01,g4,b2⟩:=ae b2
   obtain ⟨h5,h6,h7⟩:=al g4
   obtain ⟨h8,b2⟩:=ai b2
   obtain ⟨h9,b2⟩|⟨h9,b2⟩:=af b2
   ·obtain ⟨h10,b2⟩:=ai b2
    obtain ⟨h11,b2⟩:=ai b2
    cases b2
    simp(config:=cS)only[go_sem,eqT h3,h5,h6,h7,eqF h8,eqT h9,eqT h10,eqT h11]
    refine aq gb2 ?_
    simp(config:=cS)only[go_sem]
   ·cases b2
    simp(config:=cS)only[go_sem,eqT h3,h5,h6,h7,eqF h8,eqF h9]
    refine aq gb2 ?_
    simp(config:=cS)only[go_sem]
  ·cases b2
   obtain rfl:=(ak gb2).symm
   try dsimp only at h
   cases h
   simp(config:=cS)only[go_sem,eqF h3]
attribute [go_sem] Tryz.ntmps302 Tryz.results302
theorem vB {v1:Int}{res:List Int × Nat}(h:gi v1=some res):an Tryz.prog 302 [.lit (.slice none 0 0),.lit (.int .i64 v1)] [] (.ref 20000 1 0 res.2) [(20000,1,.row true (ab eI res.1))]:=by
 refine aj (ra:=[.home 4]) (md:=mdT) hT (hi:=hi00) Tryz.func302 rfl rfl (by decide +kernel) (by simp) ?_
 unfold gi at h
 obtain ⟨h1,h⟩|⟨h1,h⟩:=af h
 ·cases h
 ·obtain ⟨h2,h⟩|⟨h2,h⟩:=af h
  ·obtain ⟨h3,h⟩:=ai h
   obtain ⟨h4,h⟩:=ai h
   obtain ⟨h5,h⟩:=ai h
   cases h
   simp(config:=cS)only[go_sem,eqF h1,eqT h2,eqT h3,eqT h4,eqT h5]
  ·cases h
   simp(config:=cS)only[go_sem,eqF h1,eqF h2]
def kv (a:List (List Int))(b:Int):(Int × Int)→St
 | (d,c)=>⟨[(0,.sl (ab (eLS eI) a)),(3,.lit (.int .i64 d)),(9,.sl (ab (eLS eI) a)),(10,.lit (.int .i64 b)),(11,.lit (.int .i64 c))],[],2⟩
attribute [go_sem] kv
def kw (b:List (List Int))(c:Int):(Nat × Int × (List Int))→St
 | (a,d,e)=>⟨[(6,.ref 1536 1 0 a),(25,.sl (ab (eLS eI) b)),(26,.lit (.int .i64 c)),(27,.lit (.int .i64 d))],[(1536,1,.row true (ab eI e))],2⟩
attribute [go_sem] kw
attribute [go_sem] Tryz.ntmps264 Tryz.results264
theorem tg {v0:List (List Int)}{res:List Int}(h:eF v0=some res):an Tryz.prog 264 [.sl (ab (eLS eI) v0)] [] (.ref 20000 1 0 res.length) [(20000,1,.row true (ab eI res))]:=by
 refine aj (ra:=[.home 2,.trimT 2]) (md:=mdT) hT (hi:=hi00) Tryz.func264 rfl rfl (by decide +kernel) (by simp) ?_
 unfold eF at h
 obtain ⟨q05,l1,h⟩:=ae h
 simp(config:=cS)only[go_sem]
 refine ap (m1:=.mk) (m2:=.mk) [.nf [0,3,9,10,11] []] (kv v0 ((v0.length:Nat):Int)) l1 ?_ ?_
 ·simp(config:=cS)only[go_sem]
 ·intro nb2 sb2 bb2 b2 gb2
  obtain ⟨v3_1,v11_1⟩:=sb2
  unfold cY at b2
  try dsimp only at b2
  obtain ⟨h3,b2⟩|⟨h3,b2⟩:=af b2
  ·obtain ⟨x01,g4,b2⟩:=ae b2
   obtain ⟨h5,h6,h7⟩:=al g4
   obtain ⟨h8,b2⟩|⟨h8,b2⟩:=af b2
   ·cases b2
   ·cases b2
    simp(config:=cS)only[go_sem,eqT h3,h5,h6,h7,eqF h8]
    refine aq gb2 ?_
    simp(config:=cS)only[go_sem]
  ·cases b2
   obtain rfl:=(ak gb2).symm
   try dsimp only at h
   obtain ⟨r02,g10,h⟩:=ae h
   simp(config:=cS)only[go_sem,eqF h3]
   refine ag (vB g10) ?_
   obtain ⟨q04,l11,h⟩:=ae h
   simp(config:=cS)only[go_sem]
   refine ap (m1:=.mk) (m2:=.mk) [.nf [6,25,26,27] [1536]] (kw v0 ((v0.length:Nat):Int)) l11 ?_ ?_
   ·simp(config:=cS)only[go_sem]
   ·intro nb12 sb12 bb12 b12 gb12
    obtain ⟨v6_n_2,v27_2,v6_2⟩:=sb12
    unfold cZ at b12
    try dsimp only at b12
    obtain ⟨h13,b12⟩|⟨h13,b12⟩:=af b12
    ·obtain ⟨x03,g14,b12⟩:=ae b12
     obtain ⟨h15,h16,h17⟩:=al g14
     obtain ⟨h18,b12⟩|⟨h18,b12⟩:=af b12
     ·obtain ⟨h19,b12⟩:=ai b12
      obtain ⟨h20,b12⟩:=ai b12
      cases b12
      simp(config:=cS)only[go_sem,eqT h13,h15,h16,h17,eqT h18,eqT h19,eqT h20]
      refine aq gb12 ?_
      simp(config:=cS)only[go_sem]
     ·obtain ⟨h21,b12⟩:=ai b12
      obtain ⟨h22,b12⟩|⟨h22,b12⟩:=af b12
      ·cases b12
       simp(config:=cS)only[go_sem,eqT h13,h15,h16,h17,eqF h18,eqT h21,eqT h22]
       refine aq gb12 ?_
       simp(config:=cS)only[go_sem]
      ·obtain ⟨h23,b12⟩:=ai b12
       obtain ⟨h24,b12⟩:=ai b12
       cases b12
       simp(config:=cS)only[go_sem,eqT h13,h15,h16,h17,eqF h18,eqT h21,eqF h22,eqT h23,eqT h24]
       refine aq gb12 ?_
       simp(config:=cS)only[go_sem]
    ·cases b12
     obtain rfl:=(ak gb12).symm
     try dsimp only at h
     obtain ⟨h26,h⟩:=ai h
     obtain ⟨h27,h⟩:=ai h
     cases h
     simp(config:=cS)only[go_sem,eqF h13,eqT h26,eqT h27]
attribute [go_sem] Tryz.ntmps333 Tryz.results333
theorem Ef {v0 res:Int}(h:qq v0=some res):an Tryz.prog 333 [.lit (.int .u64 v0)] [] (.lit (.int .i64 res)) []:=by
 refine aj (ra:=[]) (md:=mdT) hT (hi:=hi00) Tryz.func333 rfl rfl (by decide +kernel) (by simp) ?_
 unfold qq at h
 obtain ⟨h1,h⟩|⟨h1,h⟩:=af h
 ·obtain ⟨h2,h⟩|⟨h2,h⟩:=af h
  ·obtain ⟨h3,h⟩|⟨h3,h⟩:=af h
   ·obtain ⟨c1001,g4,h⟩:=ae h
    obtain ⟨h5,h6,h7⟩:=bD g4
    cases h
    simp(config:=cS)only[go_sem,eqT h1,eqT h2,eqT h3,h5,h6,h7]
   ·obtain ⟨c1002,g8,h⟩:=ae h
    obtain ⟨h9,h10,h11⟩:=bD g8
    cases h
    simp(config:=cS)only[go_sem,eqT h1,eqT h2,eqF h3,h9,h10,h11]
  ·obtain ⟨h12,h⟩|⟨h12,h⟩:=af h
   ·obtain ⟨c1003,g13,h⟩:=ae h
    obtain ⟨h14,h15,h16⟩:=bD g13
    cases h
    simp(config:=cS)only[go_sem,eqT h1,eqF h2,eqT h12,h14,h15,h16]
   ·obtain ⟨c1004,g17,h⟩:=ae h
    obtain ⟨h18,h19,h20⟩:=bD g17
    cases h
    simp(config:=cS)only[go_sem,eqT h1,eqF h2,eqF h12,h18,h19,h20]
 ·obtain ⟨h21,h⟩|⟨h21,h⟩:=af h
  ·obtain ⟨h22,h⟩|⟨h22,h⟩:=af h
   ·obtain ⟨c1005,g23,h⟩:=ae h
    obtain ⟨h24,h25,h26⟩:=bD g23
    cases h
    simp(config:=cS)only[go_sem,eqF h1,eqT h21,eqT h22,h24,h25,h26]
   ·obtain ⟨c1006,g27,h⟩:=ae h
    obtain ⟨h28,h29,h30⟩:=bD g27
    cases h
    simp(config:=cS)only[go_sem,eqF h1,eqT h21,eqF h22,h28,h29,h30]
  ·obtain ⟨h31,h⟩|⟨h31,h⟩:=af h
   ·obtain ⟨c1007,g32,h⟩:=ae h
    obtain ⟨h33,h34,h35⟩:=bD g32
    cases h
    simp(config:=cS)only[go_sem,eqF h1,eqF h21,eqT h31,h33,h34,h35]
   ·obtain ⟨c1008,g36,h⟩:=ae h
    obtain ⟨h37,h38,h39⟩:=bD g36
    cases h
    simp(config:=cS)only[go_sem,eqF h1,eqF h21,eqF h31,h37,h38,h39]
attribute [go_sem] Tryz.ntmps304 Tryz.results304
theorem Ho {v0 res:Int}(h:pT v0=some res):an Tryz.prog 304 [.lit (.int .u64 v0)] [] (.lit (.int .i64 res)) []:=by
 refine aj (ra:=[]) (md:=mdT) hT (hi:=hi00) Tryz.func304 rfl rfl (by decide +kernel) (by simp) ?_
 unfold pT at h
 obtain ⟨r01,g1,h⟩:=ae h
 simp(config:=cS)only[go_sem]
 refine ag (Ef g1) ?_
 cases h
 simp(config:=cS)only[go_sem]
attribute [go_sem] Tryz.ntmps350 Tryz.results350
theorem qQ {v0:Int}{res:Bool}(h:iw v0=some res):an Tryz.prog 350 [.lit (.int .i64 v0)] [] (.lit (.bool res)) []:=by
 refine aj (ra:=[]) (md:=mdT) hT (hi:=hi00) Tryz.func350 rfl rfl (by decide +kernel) (by simp) ?_
 unfold iw at h
 cases h
 simp(config:=cS)only[go_sem]
attribute [go_sem] Tryz.ntmps329 Tryz.results329
theorem AA {v0 v1:Int}{res:Bool}(h:jr v0 v1=some res):an Tryz.prog 329 [.lit (.int .i64 v0),.lit (.int .i64 v1)] [] (.lit (.bool res)) []:=by
 refine aj (ra:=[]) (md:=mdT) hT (hi:=hi00) Tryz.func329 rfl rfl (by decide +kernel) (by simp) ?_
 unfold jr at h
 obtain ⟨r01,g1,h⟩:=ae h
 simp(config:=cS)only[go_sem]
 refine ag (qQ g1) ?_
 obtain ⟨h2,h⟩|⟨h2,h⟩:=af h
 ·obtain ⟨r02,g3,h⟩:=ae h
  simp(config:=cS)only[go_sem,eZt h2]
  refine ag (qQ g3) ?_
  obtain ⟨h4,h⟩|⟨h4,h⟩:=af h
  ·cases h
   simp(config:=cS)only[go_sem,eZt h2,eZt h4]
  ·cases h
   simp(config:=cS)only[go_sem,eZt h2,eZf h4]
 ·cases h
  simp(config:=cS)only[go_sem,eZf h2]
def eh (a:Bool)(c d e:Int):(Int × (List Int))→St
 | (f,b)=>⟨[(0,.ref 10000 0 0 b.length),(1,.lit (.int .i64 c)),(2,.lit (.int .i64 d)),(6,.lit (.int .i64 e)),(7,.lit (.int .i64 f))],[(10000,0,.row a (ab eI b))],2⟩
attribute [go_sem] eh
def ei (a:Bool)(c d:Int):(Int × (List Int))→St
 | (e,b)=>⟨[(0,.ref 10000 0 0 b.length),(1,.lit (.int .i64 c)),(2,.lit (.int .i64 d)),(6,.lit (.int .i64 e))],[(10000,0,.row a (ab eI b))],2⟩
attribute [go_sem] ei
@[go_sem] def hi323_6:DT:=.i2 0 (.i2 1 (.i2 2 (.i2 3 (.i2 4 (.i2 5 (.i2 6 (.i2 7 (.i2 8 (.i2 9 (.i2 10 (.i2 11 (.i2 12 (.i2 13 (.i2 14 (.i2 15 (.i2 16 (.i2 17 .nil)))))))))))))))))
@[go_sem] def hi323_4:DT:=.i2 0 (.i2 1 (.i2 2 (.i2 3 (.i2 4 (.i2 5 (.i2 6 (.i2 7 (.i2 8 (.i2 9 (.i2 10 (.i2 11 (.i2 12 (.i2 13 (.i2 14 .nil))))))))))))))
def za:Hint where
 acts:=fun _=>[]
 draws:=fun
  | 4=>⟨hi323_4,[[],[],[0,1],[0,1,2],[0,1,2,3],[0,1,2,3],.range 6,.range 7,[0,1,2,3],[0,1,2,3],[0,1,2,3,9],[0,1,2,3,8,9,10],[0,1,2,3,8,9,10,11],.range 13,.range 14],.range 15⟩
  | 6=>⟨hi323_6,[[],[],[],[],[3],[],[],[6],[5,6,7],[5,6,7,8],[],[],[10,11],[10,11,12],[0,1,5,6,7,8,9,10,11,12,13],[0,1,5,6,7,8,9,10,11,12,13,14],.range 16,.range 17],[0,1,13,14,15,2,3,4,5,6,7,8,9,10,11,12,16,17]⟩
  | _=>⟨.nil,[],[]⟩
theorem NX (i:Nat):za.acts i=[]:=rfl
theorem NY (i:Nat):za.views i=none:=rfl
attribute [go_sem] NX NY Tryz.ntmps323 Tryz.results323
@[go_sem] theorem Qb:(za.draws 4).order=hi323_4:=rfl
@[go_sem] theorem Qc:(za.draws 6).order=hi323_6:=rfl
theorem lI {v0:List Int}{v1 v2:Int}{zb0:Bool}{res:List Int}(h:bk v0 v1 v2=some res):an Tryz.prog 323 [.ref 10000 0 0 v0.length,.lit (.int .i64 v1),.lit (.int .i64 v2)] [(10000,0,.row zb0 (ab eI v0))] (.tup []) [(10000,0,.row zb0 (ab eI res))]:=by
 refine aj (ra:=[]) (md:=mdT) hT (hi:=za) Tryz.func323 rfl rfl (by decide +kernel) (by simp) ?_
 unfold bk at h
 obtain ⟨q06,l1,h⟩:=ae h
 simp(config:=cS)only[go_sem]
 refine ap (m1:=.mk) (m2:=.mk) [.nf [0,1,2,6] [10000]] (ei zb0 v1 v2) l1 ?_ ?_
 ·simp(config:=cS)only[go_sem]
 ·intro nb2 sb2 bb2 b2 gb2
  obtain ⟨v6_1,v0_1⟩:=sb2
  unfold aP at b2
  try dsimp only at b2
  obtain ⟨h3,b2⟩|⟨h3,b2⟩:=af b2
  ·obtain ⟨q05,l4,b2⟩:=ae b2
   simp(config:=cS)only[go_sem,eqT h3]
   refine ap (m1:=.mk) (m2:=.mk) [.nf [0,1,2,6,7] [10000]] (eh zb0 v1 v2 v6_1) l4 ?_ ?_
   ·simp(config:=cS)only[go_sem,eqT h3]
   ·intro nb5 sb5 bb5 b5 gb5
    obtain ⟨v7_2,v0_2⟩:=sb5
    unfold aK at b5
    try dsimp only at b5
    obtain ⟨h6,b5⟩|⟨h6,b5⟩:=af b5
    ·obtain ⟨x01,g7,b5⟩:=ae b5
     obtain ⟨h8,h9,h10⟩:=al g7
     obtain ⟨x02,g11,b5⟩:=ae b5
     obtain ⟨h12,h13,h14⟩:=al g11
     obtain ⟨r03,g15,b5⟩:=ae b5
     simp(config:=cS)only[go_sem,eqT h3,eqT h6,h8,h9,h10,h12,h13,h14]
     refine ag (AA g15) ?_
     obtain ⟨h16,b5⟩|⟨h16,b5⟩:=af b5
     ·obtain ⟨x04,g17,b5⟩:=ae b5
      obtain ⟨h18,h19,h20⟩:=al g17
      cases b5
      simp(config:=cS)only[go_sem,eqT h3,eqT h6,h8,h9,h10,h12,h13,h14,eZt h16,h18,h19,h20]
      refine aq gb5 ?_
      simp(config:=cS)only[go_sem,eqT h3,eqT h6,h8,h9,h10,h12,h13,h14,eZt h16,h18,h19,h20]
     ·cases b5
      obtain rfl:=(ak gb5).symm
      try dsimp only at b2
      cases b2
      simp(config:=cS)only[go_sem,eqT h3,eqT h6,h8,h9,h10,h12,h13,h14,eZf h16]
      refine aq gb2 ?_
      simp(config:=cS)only[go_sem,eqT h3,eqT h6,h8,h9,h10,h12,h13,h14,eZf h16]
    ·cases b5
     obtain rfl:=(ak gb5).symm
     try dsimp only at b2
     cases b2
     simp(config:=cS)only[go_sem,eqT h3,eqF h6]
     refine aq gb2 ?_
     simp(config:=cS)only[go_sem,eqT h3,eqF h6]
  ·cases b2
   obtain rfl:=(ak gb2).symm
   try dsimp only at h
   cases h
   simp(config:=cS)only[go_sem,eqF h3]
def gE (a:Bool)(c d e:Int)(b:List Int)(_:Unit):St:=⟨[(0,.ref 10000 0 0 b.length),(1,.lit (.int .i64 c)),(2,.lit (.int .i64 d)),(3,.lit (.int .i64 e)),(8,.lit (.bool true)),(9,.lit (.bool true))],[(10000,0,.row a (ab eI b))],2⟩
attribute [go_sem] gE
@[go_sem] def hi303_17:DT:=.i2 0 (.i2 1 (.i2 2 (.i2 3 (.i2 4 (.i2 5 (.i2 6 (.i2 7 (.i2 8 (.i2 9 (.i2 10 (.i2 11 (.i2 12 (.i2 13 (.i2 14 .nil))))))))))))))
def Do:Hint where
 acts:=fun _=>[]
 draws:=fun
  | 17=>⟨hi303_17,[[],[0],[0,1],[0,1,2],[0,1,2],[0,1,2,4],.range 6,.range 7,[0,1,2],[0,1,2],[0,1,2,8,9],[0,1,2,8,9,10],.range 12,.range 13,.range 14],.range 15⟩
  | _=>⟨.nil,[],[]⟩
theorem NZ (i:Nat):Do.acts i=[]:=rfl
theorem Oa (i:Nat):Do.views i=none:=rfl
attribute [go_sem] NZ Oa Tryz.ntmps303 Tryz.results303
@[go_sem] theorem PM:(Do.draws 17).order=hi303_17:=rfl
theorem pi {v0:List Int}{v1 v2 v3:Int}{zb0:Bool}{res:List Int}(h:bQ v0 v1 v2 v3=some res):an Tryz.prog 303 [.ref 10000 0 0 v0.length,.lit (.int .i64 v1),.lit (.int .i64 v2),.lit (.int .i64 v3)] [(10000,0,.row zb0 (ab eI v0))] (.tup []) [(10000,0,.row zb0 (ab eI res))]:=by
 refine aj (ra:=[]) (md:=mdT) hT (hi:=Do) Tryz.func303 rfl rfl (by decide +kernel) (by simp) ?_
 unfold bQ at h
 obtain ⟨q02,l1,h⟩:=ae h
 simp(config:=cS)only[go_sem]
 refine ap (m1:=.mk) (m2:=.mk) [.nf [0,1,2,3,8,9] [10000]] (gE zb0 v1 v2 v3 v0) l1 ?_ ?_
 ·simp(config:=cS)only[go_sem]
 ·intro nb2 sb2 bb2 b2 gb2
  unfold dN at b2
  try dsimp only at b2
  obtain ⟨h3,b2⟩|⟨h3,b2⟩:=af b2
  ·obtain ⟨r01,g4,b2⟩:=ae b2
   simp(config:=cS)only[go_sem,eqT h3]
   refine ag (lI g4) ?_
   cases b2
   obtain rfl:=(ak gb2).symm
   try dsimp only at h
   cases h
   simp(config:=cS)only[go_sem]
  ·cases b2
attribute [go_sem] Tryz.ntmps266 Tryz.results266
theorem pG {v0:List Int}{zb0:Bool}{res:List Int}(h:bH v0=some res):an Tryz.prog 266 [.ref 10000 0 0 v0.length] [(10000,0,.row zb0 (ab eI v0))] (.tup []) [(10000,0,.row zb0 (ab eI res))]:=by
 refine aj (ra:=[]) (md:=mdT) hT (hi:=hi00) Tryz.func266 rfl rfl (by decide +kernel) (by simp) ?_
 unfold bH at h
 obtain ⟨r01,g1,h⟩:=ae h
 simp(config:=cS)only[go_sem]
 refine ag (Ho g1) ?_
 obtain ⟨r02,g2,h⟩:=ae h
 simp(config:=cS)only[go_sem]
 refine ag (pi g2) ?_
 cases h
 simp(config:=cS)only[go_sem]
def nL (g:Int)(h:List GNode)(i:List GTie)(j d:Int)(e f b:List Int):(Int × (List Int) × (List Int))→St
 | (k,a,c)=>⟨[(2,.ptr 128 1 0 0),(3,.ptr 192 1 0 0),(5,.ref 383 1 0 a.length),(6,.ref 447 1 0 c.length),(20,.ref 1280 1 0 b.length),(21,.lit (.int .i64 g)),(22,.lit (.int .i64 k))],[(128,1,.var [.sl (ab GNode.encS h),.sl (ab GTie.enc i),.lit (.int .i64 j)]),(192,1,.var [.lit (.int .i64 d),.sl (ab eI e),.sl (ab eI f)]),(383,1,.row true (ab eI a)),(447,1,.row true (ab eI c)),(1280,1,.row true (ab eI b))],2⟩
attribute [go_sem] nL
def nM (a b:List Int):(Int × (List (List Int)))→St
 | (d,c)=>⟨[(5,.ref 383 1 0 a.length),(6,.ref 447 1 0 b.length),(10,.ref 703 1 0 c.length),(11,.lit (.int .i64 d))],[(383,1,.tree (ab eI a)),(447,1,.row true (ab eI b)),(703,1,.row true (ab (eLO eI) c))],2⟩
attribute [go_sem] nM
@[go_sem] def hi192_7:DT:=.i2 0 (.i2 1 (.i2 2 (.i2 3 (.i2 4 (.i2 5 (.i2 6 (.i2 7 (.i2 8 (.i2 9 (.i2 10 (.i2 11 (.i2 12 (.i2 13 .nil)))))))))))))
def Dp:Hint where
 acts:=fun _=>[]
 draws:=fun
  | 7=>⟨hi192_7,[[],[0],[],[2],[],[4],[],[4,5,6],[4,5,6,7],[4,5,6,7,8],[2,3,4,5,6,7,8,9],[2,3,4,5,6,7,8,9,10],.range 12,.range 13],.range 14⟩
  | _=>⟨.nil,[],[]⟩
theorem Ob (i:Nat):Dp.acts i=[]:=rfl
theorem Oc (i:Nat):Dp.views i=none:=rfl
attribute [go_sem] Ob Oc Tryz.ntmps192 Tryz.results192
@[go_sem] theorem Qd:(Dp.draws 7).order=hi192_7:=rfl
theorem AB {s:GShow}{v1:GState}{res:List (List Int)}(h:js s v1=some res):an Tryz.prog 192 [.agg (GShow.encS s),.agg (GState.encS v1)] [] (.ref 20000 1 0 res.length) [(20000,1,.row true (ab (eLO eI) res))]:=by
 refine aj (ra:=[.home 4]) (md:=mdT) hT (hi:=Dp) Tryz.func192 rfl rfl (by decide +kernel) (by simp) ?_
 unfold js at h
 obtain ⟨h1,h⟩|⟨h1,h⟩:=af h
 ·cases h
  simp(config:=cS)only[go_sem,eqT h1]
 ·obtain ⟨r01,g2,h⟩:=ae h
  simp(config:=cS)only[go_sem,eqF h1]
  refine ag (Cq g2) ?_
  obtain ⟨q09,l3,h⟩:=ae h
  simp(config:=cS)only[go_sem]
  refine ap (m1:=.mk) (m2:=.mk) [.home 5,.home 6,.nf [2,3,5,6,20,21,22] [128,192,383,447,1280]] (nL ((r01.length:Nat):Int) s.nodes s.ties s.horizon v1.now v1.times v1.values r01) l3 ?_ ?_
  ·simp(config:=cS)only[go_sem]
  ·intro nb4 sb4 bb4 b4 gb4
   obtain ⟨v22_1,must_1,may_1⟩:=sb4
   unfold gj at b4
   try dsimp only at b4
   obtain ⟨h5,b4⟩|⟨h5,b4⟩:=af b4
   ·obtain ⟨x02,g6,b4⟩:=ae b4
    obtain ⟨h7,h8,h9⟩:=al g6
    obtain ⟨x03,g10,b4⟩:=ae b4
    obtain ⟨h11,h12,h13⟩:=al g10
    obtain ⟨x04,g14,b4⟩:=ae b4
    obtain ⟨h15,h16,h17⟩:=al g14
    obtain ⟨h18,b4⟩|⟨h18,b4⟩:=af b4
    ·obtain ⟨h19,b4⟩:=ai b4
     obtain ⟨h20,b4⟩:=ai b4
     cases b4
     simp(config:=cS)only[go_sem,eqT h5,h7,h8,h9,h11,h12,h13,h15,h16,h17,eqT h18,eqT h19,eqT h20]
     refine aq gb4 ?_
     simp(config:=cS)only[go_sem]
    ·obtain ⟨h21,b4⟩|⟨h21,b4⟩:=af b4
     ·obtain ⟨h22,b4⟩:=ai b4
      obtain ⟨h23,b4⟩:=ai b4
      cases b4
      simp(config:=cS)only[go_sem,eqT h5,h7,h8,h9,h11,h12,h13,h15,h16,h17,eqF h18,eqT h21,eqT h22,eqT h23]
      refine aq gb4 ?_
      simp(config:=cS)only[go_sem]
     ·cases b4
      simp(config:=cS)only[go_sem,eqT h5,h7,h8,h9,h11,h12,h13,h15,h16,h17,eqF h18,eqF h21]
      refine aq gb4 ?_
      simp(config:=cS)only[go_sem]
   ·cases b4
    obtain rfl:=(ak gb4).symm
    try dsimp only at h
    obtain ⟨q08,l25,h⟩:=ae h
    simp(config:=cS)only[go_sem,eqF h5]
    refine ap (m1:=.mk) (m2:=.mk) [.home 10,.freeze [383],.nf [5,6,10,11] [383,447,703]] (nM must_1 may_1) l25 ?_ ?_
    ·simp(config:=cS)only[go_sem]
    ·intro nb26 sb26 bb26 b26 gb26
     obtain ⟨set_2,out_2⟩:=sb26
     unfold gk at b26
     try dsimp only at b26
     obtain ⟨h27,b26⟩:=ai b26
     obtain ⟨h28,b26⟩|⟨h28,b26⟩:=af b26
     ·obtain ⟨r05,g29,b26⟩:=ae b26
      simp(config:=cS)only[go_sem,eqF h27,eqT h28]
      refine ag (rI g29) ?_
      obtain ⟨r06,g30,b26⟩:=ae b26
      simp(config:=cS)only[go_sem]
      refine ag (tg g30) ?_
      obtain ⟨r07,g31,b26⟩:=ae b26
      simp(config:=cS)only[go_sem]
      refine ag (pG g31) ?_
      obtain ⟨h32,b26⟩:=ai b26
      obtain ⟨h33,b26⟩:=ai b26
      obtain ⟨h34,b26⟩:=ai b26
      cases b26
      simp(config:=cS)only[go_sem,h32.symm,eqT h33,eqT h34]
      refine aq gb26 ?_
      simp(config:=cS)only[go_sem]
     ·cases b26
      obtain rfl:=(ak gb26).symm
      try dsimp only at h
      cases h
      simp(config:=cS)only[go_sem,eqF h27,eqF h28]
def iT (c:List (List Int))(a:Nat)(b:List AV)(d e:Int):St:=⟨[(0,.sl (ab (eLS eI) c)),(1,.fn a b),(7,.lit (.int .i64 d)),(8,.lit (.int .i64 e))],[],2⟩
attribute [go_sem] iT
attribute [go_sem] Tryz.ntmps299 Tryz.results299
theorem qC {v0:List (List Int)}{v1:(List Int)→Option Bool}{f_v1:Nat}{k_v1:List AV}(hp_v1:∀ y0 r,v1 y0=some r→an Tryz.prog f_v1 ([.sl (ab eI y0)]++k_v1) [] (.lit (.bool r)) [])(hc_v1:KC k_v1)(hm_v1:∀ a,mdT f_v1 a=⟨[],false⟩)(hk_v1:spf f_v1=false){res:Int}(h:cI v0 v1=some res):an Tryz.prog 299 [.sl (ab (eLS eI) v0),.fn f_v1 k_v1] [] (.lit (.int .i64 res)) []:=by
 refine aj (ra:=[]) (md:=mdT) hT (hi:=hi00) Tryz.func299 rfl rfl (by decide +kernel) (by simp) ?_
 unfold cI at h
 obtain ⟨q03,l1,h⟩:=ae h
 simp(config:=cS)only[go_sem,hc_v1.1,hc_v1.2,hm_v1,hk_v1]
 refine ap (m1:=.mk) (m2:=.mk) [.nf [0,1,7,8] []] (iT v0 f_v1 k_v1 ((v0.length:Nat):Int)) l1 ?_ ?_
 ·simp(config:=cS)only[go_sem,hc_v1.1,hc_v1.2,hm_v1,hk_v1]
 ·intro nb2 v8_1 bb2 b2 gb2
  unfold bv at b2
  try dsimp only at b2
  obtain ⟨h3,b2⟩|⟨h3,b2⟩:=af b2
  ·obtain ⟨x01,g4,b2⟩:=ae b2
   obtain ⟨h5,h6,h7⟩:=al g4
   obtain ⟨r02,g8,b2⟩:=ae b2
   simp(config:=cS)only[go_sem,hc_v1.1,hc_v1.2,hm_v1,hk_v1,eqT h3,h5,h6,h7]
   refine ag (hp_v1 _ _ g8) ?_
   obtain ⟨h9,b2⟩|⟨h9,b2⟩:=af b2
   ·cases b2
    obtain rfl:=(ak gb2).symm
    try dsimp only at h
    cases h
    simp(config:=cS)only[go_sem,hc_v1.1,hc_v1.2,hm_v1,hk_v1,eqT h3,h5,h6,h7,eZt h9]
   ·cases b2
    simp(config:=cS)only[go_sem,hc_v1.1,hc_v1.2,hm_v1,hk_v1,eqT h3,h5,h6,h7,eZf h9]
    refine aq gb2 ?_
    simp(config:=cS)only[go_sem,hc_v1.1,hc_v1.2,hm_v1,hk_v1,eqT h3,h5,h6,h7,eZf h9]
  ·cases b2
   obtain rfl:=(ak gb2).symm
   try dsimp only at h
   cases h
   simp(config:=cS)only[go_sem,hc_v1.1,hc_v1.2,hm_v1,hk_v1,eqF h3]
attribute [go_sem] Tryz.ntmps262 Tryz.results262
theorem pC {v0:List (List Int)}{v1:(List Int)→Option Bool}{f_v1:Nat}{k_v1:List AV}(hp_v1:∀ y0 r,v1 y0=some r→an Tryz.prog f_v1 ([.sl (ab eI y0)]++k_v1) [] (.lit (.bool r)) [])(hc_v1:KC k_v1)(hm_v1:∀ a,mdT f_v1 a=⟨[],false⟩)(hk_v1:spf f_v1=false){res:Bool}(h:dd v0 v1=some res):an Tryz.prog 262 [.sl (ab (eLS eI) v0),.fn f_v1 k_v1] [] (.lit (.bool res)) []:=by
 refine aj (ra:=[]) (md:=mdT) hT (hi:=hi00) Tryz.func262 rfl rfl (by decide +kernel) (by simp) ?_
 unfold dd at h
 obtain ⟨r01,g1,h⟩:=ae h
 simp(config:=cS)only[go_sem,hc_v1.1,hc_v1.2,hm_v1,hk_v1]
 refine ag (qC hp_v1 hc_v1 hm_v1 hk_v1 g1) ?_
 cases h
 simp(config:=cS)only[go_sem,hc_v1.1,hc_v1.2,hm_v1,hk_v1]
attribute [go_sem] Tryz.ntmps263 Tryz.results263
theorem Cr {y v1:List Int}{res:Bool}(h:ma y v1=some res):an Tryz.prog 263 [.sl (ab eI y),.loc [.sl (ab eI v1)]] [] (.lit (.bool res)) []:=by
 refine aj (ra:=[]) (md:=mdT) hT (hi:=hi00) Tryz.func263 rfl rfl (by decide +kernel) (by simp) ?_
 unfold ma at h
 obtain ⟨r01,g1,h⟩:=ae h
 simp(config:=cS)only[go_sem]
 refine ag (kK g1) ?_
 cases h
 simp(config:=cS)only[go_sem]
attribute [go_sem] Tryz.ntmps191 Tryz.results191
theorem zb {list:List (List Int)}{v1:List Int}{res:Bool}(h:la list v1=some res):an Tryz.prog 191 [.sl (ab (eLS eI) list),.sl (ab eI v1)] [] (.lit (.bool res)) []:=by
 refine aj (ra:=[]) (md:=mdT) hT (hi:=hi00) Tryz.func191 rfl rfl (by decide +kernel) (by simp) ?_
 unfold la at h
 obtain ⟨r01,g1,h⟩:=ae h
 simp(config:=cS)only[go_sem]
 refine ag (pC (by exact fun _ _ hr=>Cr hr) (by refine ⟨fun _=>?_,fun _=>?_⟩ <;> simp only [go_sem]) (fun _=>rfl) rfl g1) ?_
 cases h
 simp(config:=cS)only[go_sem]
attribute [go_sem] Tryz.ntmps57 Tryz.results57
theorem io {v0 res:List Int}(h:cn v0=some res):an Tryz.prog 57 [.sl (ab eI v0)] [] (.ref 20000 1 0 res.length) [(20000,1,.row true (ab eI res))]:=by
 refine aj (ra:=[.home 2]) (md:=mdT) hT (hi:=hi00) Tryz.func57 rfl rfl (by decide +kernel) (by simp) ?_
 unfold cn at h
 obtain ⟨h1,h3,h2⟩|⟨h1,h3⟩:=BC h
 ·cases h3
  simp(config:=cS)only[go_sem,h1]
 ·obtain ⟨h4,h3⟩:=ai h3
  obtain ⟨h5,h3⟩:=ai h3
  cases h3
  simp(config:=cS)only[go_sem,yy h1,eqT h4,eqT h5]
@[go_sem] def hi179_1:DT:=.i1 0 (.i1 1 (.i2 2 (.i2 3 (.i1 5 (.i1 6 (.i0 4 [0,1,5,6] (.i0 7 [0,1] (.i2 8 (.i2 9 .nil)))))))))
def Dq:Hint where
 acts:=fun _=>[]
 draws:=fun
  | 1=>⟨hi179_1,[[],[0],[],[2],[2,3],[],[5],[2,3,4,5,6],.range 8,.range 9],.range 10⟩
  | _=>⟨.nil,[],[]⟩
theorem Od (i:Nat):Dq.acts i=[]:=rfl
theorem Oe (i:Nat):Dq.views i=none:=rfl
attribute [go_sem] Od Oe Tryz.ntmps179 Tryz.results179
@[go_sem] theorem Qe:(Dq.draws 1).order=hi179_1:=rfl
theorem mh {v0 res:GState}(h:di v0=some res):an Tryz.prog 179 [.agg (GState.encS v0)] [] (.agg [.lit (.int .i64 res.now),.ref 20000 1 0 res.times.length,.ref 20001 1 0 res.values.length]) [(20000,1,.row true (ab eI res.times)),(20001,1,.row true (ab eI res.values))]:=by
 refine aj (ra:=[.homeCell 128 1,.homeCell 128 2]) (md:=mdT) hT (hi:=Dq) Tryz.func179 rfl rfl (by decide +kernel) (by simp) ?_
 unfold di at h
 obtain ⟨r01,g1,h⟩:=ae h
 simp(config:=cS)only[go_sem]
 refine ag (io g1) ?_
 obtain ⟨r02,g2,h⟩:=ae h
 simp(config:=cS)only[go_sem]
 refine ag (io g2) ?_
 cases h
 simp(config:=cS)only[go_sem]
def pj (g:List Int)(h:Int)(i:List GNode)(j:List GTie)(k d:Int)(e f:List Int)(c:Int)(a:List Int):(Int × (List Int))→St
 | (l,b)=>⟨[(3,.ptr 192 1 0 0),(4,.ptr 256 1 0 0),(6,.ptr 384 1 0 0),(7,.ptr 448 1 0 0),(12,.sl (ab eI g)),(13,.lit (.int .i64 h)),(14,.lit (.int .i64 l))],[(192,1,.var [.sl (ab GNode.encS i),.sl (ab GTie.enc j),.lit (.int .i64 k)]),(256,1,.var [.lit (.int .i64 d),.sl (ab eI e),.sl (ab eI f)]),(384,1,.var [.lit (.int .i64 0),.lit (.slice none 0 0),.lit (.slice none 0 0)]),(448,1,.var [.lit (.int .i64 c),.ref 704 1 0 b.length,.ref 705 1 0 a.length]),(704,1,.row true (ab eI b)),(705,1,.row true (ab eI a))],2⟩
attribute [go_sem] pj
@[go_sem] def hi194_5:DT:=.i2 0 (.i2 1 (.i2 2 (.i2 3 (.i2 4 (.i2 5 (.i2 6 (.i2 7 (.i2 8 (.i2 9 (.i2 10 (.i2 11 .nil)))))))))))
def Dr:Hint where
 acts:=fun _=>[]
 draws:=fun
  | 5=>⟨hi194_5,[[],[0],[],[2],[],[2,3,4],[2,3,4,5],[2,3,4,5,6],[],[8],.range 10,.range 11],.range 12⟩
  | _=>⟨.nil,[],[]⟩
theorem Of (i:Nat):Dr.acts i=[]:=rfl
theorem Og (i:Nat):Dr.views i=none:=rfl
attribute [go_sem] Of Og Tryz.ntmps194 Tryz.results194
@[go_sem] theorem Qf:(Dr.draws 5).order=hi194_5:=rfl
theorem Eg {s:GShow}{v1:GState}{ties:List Int}{res:GState}(h:kM s v1 ties=some res):an Tryz.prog 194 [.agg (GShow.encS s),.agg (GState.encS v1),.sl (ab eI ties)] [] (.agg [.lit (.int .i64 res.now),.ref 20000 1 0 res.times.length,.ref 20001 1 0 res.values.length]) [(20000,1,.row true (ab eI res.times)),(20001,1,.row true (ab eI res.values))]:=by
 refine aj (ra:=[.homeCell 384 1,.homeCell 384 2]) (md:=mdT) hT (hi:=Dr) Tryz.func194 rfl rfl (by decide +kernel) (by simp) ?_
 unfold kM at h
 obtain ⟨r01,g1,h⟩:=ae h
 simp(config:=cS)only[go_sem]
 refine ag (mh g1) ?_
 obtain ⟨q05,l2,h⟩:=ae h
 simp(config:=cS)only[go_sem]
 refine ap (m1:=.mk) (m2:=.mk) [.nf [3,4,6,7,12,13,14] [192,256,384,448,704,705]] (pj ties ((ties.length:Nat):Int) s.nodes s.ties s.horizon v1.now v1.times v1.values r01.now r01.values) l2 ?_ ?_
 ·simp(config:=cS)only[go_sem]
 ·intro nb3 sb3 bb3 b3 gb3
  obtain ⟨v14_1,h704_1⟩:=sb3
  unfold ix at b3
  try dsimp only at b3
  obtain ⟨h4,b3⟩|⟨h4,b3⟩:=af b3
  ·obtain ⟨x02,g5,b3⟩:=ae b3
   obtain ⟨h6,h7,h8⟩:=al g5
   obtain ⟨x03,g9,b3⟩:=ae b3
   obtain ⟨h10,h11,h12⟩:=al g9
   obtain ⟨x04,g13,b3⟩:=ae b3
   obtain ⟨h14,h15,h16⟩:=al g13
   cases b3
   simp(config:=cS)only[go_sem,eqT h4,h6,h7,h8,h10,h11,h12,h14,h15,h16]
   refine aq gb3 ?_
   simp(config:=cS)only[go_sem]
  ·cases b3
   obtain rfl:=(ak gb3).symm
   try dsimp only at h
   cases h
   simp(config:=cS)only[go_sem,eqF h4]
attribute [go_sem] Tryz.ntmps351 Tryz.results351
theorem vC {t:GTie}{node:Int}{res:Bool}(h:iY t node=some res):an Tryz.prog 351 [.agg (GTie.enc t),.loc [.lit (.int .i64 node)]] [] (.lit (.bool res)) []:=by
 refine aj (ra:=[]) (md:=mdT) hT (hi:=hi00) Tryz.func351 rfl rfl (by decide +kernel) (by simp) ?_
 unfold iY at h
 obtain ⟨h1,h⟩|⟨h1,h⟩:=af h
 ·cases h
  simp(config:=cS)only[go_sem,eZt h1]
 ·cases h
  simp(config:=cS)only[go_sem,eZf h1]
attribute [go_sem] Tryz.ntmps334 Tryz.results334
theorem AC {s:GShow}{node res:Int}(h:jt s node=some res):an Tryz.prog 334 [.agg (GShow.encS s),.lit (.int .i64 node)] [] (.lit (.int .i64 res)) []:=by
 refine aj (ra:=[]) (md:=mdT) hT (hi:=hi00) Tryz.func334 rfl rfl (by decide +kernel) (by simp) ?_
 unfold jt at h
 obtain ⟨r01,g1,h⟩:=ae h
 simp(config:=cS)only[go_sem]
 refine ag (lG (by exact fun _ _ hr=>vC hr) (by refine ⟨fun _=>?_,fun _=>?_⟩ <;> simp only [go_sem]) (fun _=>rfl) rfl g1) ?_
 cases h
 simp(config:=cS)only[go_sem]
def oo (b:List GNode)(c:List GTie)(d:Int):(Int × (List Int))→St
 | (i,a)=>⟨[(1,.ptr 64 1 0 0),(3,.ref 255 1 0 a.length),(4,.lit (.int .i64 i))],[(64,1,.var [.sl (ab GNode.encS b),.sl (ab GTie.enc c),.lit (.int .i64 d)]),(255,1,.row true (ab eI a))],2⟩
attribute [go_sem] oo
attribute [go_sem] Tryz.ntmps305 Tryz.results305
theorem Cs {s:GShow}{res:List Int}(h:kf s=some res):an Tryz.prog 305 [.agg (GShow.encS s)] [] (.ref 20000 1 0 res.length) [(20000,1,.row true (ab eI res))]:=by
 refine aj (ra:=[.home 2]) (md:=mdT) hT (hi:=hi00) Tryz.func305 rfl rfl (by decide +kernel) (by simp) ?_
 unfold kf at h
 obtain ⟨q02,l1,h⟩:=ae h
 simp(config:=cS)only[go_sem]
 refine ap (m1:=.mk) (m2:=.mk) [.home 3,.nf [1,3,4] [64,255]] (oo s.nodes s.ties s.horizon) l1 ?_ ?_
 ·simp(config:=cS)only[go_sem]
 ·intro nb2 sb2 bb2 b2 gb2
  obtain ⟨i_1,out_1⟩:=sb2
  unfold gX at b2
  try dsimp only at b2
  obtain ⟨h3,b2⟩|⟨h3,b2⟩:=af b2
  ·obtain ⟨r01,g4,b2⟩:=ae b2
   simp(config:=cS)only[go_sem,eqT h3]
   refine ag (AC g4) ?_
   obtain ⟨h5,b2⟩|⟨h5,b2⟩:=af b2
   ·obtain ⟨h6,b2⟩:=ai b2
    obtain ⟨h7,b2⟩:=ai b2
    cases b2
    simp(config:=cS)only[go_sem,eqT h5,eqT h6,eqT h7]
    refine aq gb2 ?_
    simp(config:=cS)only[go_sem]
   ·cases b2
    simp(config:=cS)only[go_sem,eqF h5]
    refine aq gb2 ?_
    simp(config:=cS)only[go_sem]
  ·cases b2
   obtain rfl:=(ak gb2).symm
   try dsimp only at h
   cases h
   simp(config:=cS)only[go_sem,eqF h3]
def iU (c:Bool)(a:Nat)(b:List AV):(Int × Int × (List Int))→St
 | (e,f,d)=>⟨[(0,.ref 10000 0 0 d.length),(1,.fn a b),(5,.lit (.int .i64 e)),(6,.lit (.int .i64 f))],[(10000,0,.row c (ab eI d))],2⟩
attribute [go_sem] iU
attribute [go_sem] Tryz.ntmps186 Tryz.results186
theorem qD {v0:List Int}{v1:Int→Option Bool}{zb0:Bool}{f_v1:Nat}{k_v1:List AV}(hp_v1:∀ y0 r,v1 y0=some r→an Tryz.prog f_v1 ([.lit (.int .i64 y0)]++k_v1) [] (.lit (.bool r)) [])(hc_v1:KC k_v1)(hm_v1:∀ a,mdT f_v1 a=⟨[],false⟩)(hk_v1:spf f_v1=false){res:List Int}(h:cJ v0 v1=some res):an Tryz.prog 186 [.ref 10000 0 0 v0.length,.fn f_v1 k_v1] [(10000,0,.row zb0 (ab eI v0))] (.ref 10000 0 0 res.length) [(10000,0,.row false (ab eI res))]:=by
 refine aj (ra:=[.home 4,.trim 4]) (md:=mdT) hT (hi:=hi00) Tryz.func186 rfl rfl (by decide +kernel) (by simp) ?_
 unfold cJ at h
 obtain ⟨r01,g1,h⟩:=ae h
 simp(config:=cS)only[go_sem,hc_v1.1,hc_v1.2,hm_v1,hk_v1]
 refine ag (lH hp_v1 hc_v1 hm_v1 hk_v1 g1) ?_
 obtain ⟨h2,h⟩|⟨h2,h⟩:=af h
 ·cases h
  simp(config:=cS)only[go_sem,hc_v1.1,hc_v1.2,hm_v1,hk_v1,eqT h2]
 ·obtain ⟨q05,l3,h⟩:=ae h
  simp(config:=cS)only[go_sem,hc_v1.1,hc_v1.2,hm_v1,hk_v1,eqF h2]
  refine ap (m1:=.mk) (m2:=.mk) [.nf [0,1,5,6] [10000]] (iU zb0 f_v1 k_v1) l3 ?_ ?_
  ·simp(config:=cS)only[go_sem,hc_v1.1,hc_v1.2,hm_v1,hk_v1,eqF h2]
  ·intro nb4 sb4 bb4 b4 gb4
   obtain ⟨v5_1,v6_1,v0_1⟩:=sb4
   unfold bU at b4
   try dsimp only at b4
   obtain ⟨h5,b4⟩|⟨h5,b4⟩:=af b4
   ·obtain ⟨x02,g6,b4⟩:=ae b4
    obtain ⟨h7,h8,h9⟩:=al g6
    obtain ⟨r03,g10,b4⟩:=ae b4
    simp(config:=cS)only[go_sem,hc_v1.1,hc_v1.2,hm_v1,hk_v1,eqF h2,eqT h5,h7,h8,h9]
    refine ag (hp_v1 _ _ g10) ?_
    obtain ⟨h11,b4⟩|⟨h11,b4⟩:=af b4
    ·cases b4
     simp(config:=cS)only[go_sem,hc_v1.1,hc_v1.2,hm_v1,hk_v1,eqF h2,eqT h5,h7,h8,h9,eZt h11]
     refine aq gb4 ?_
     simp(config:=cS)only[go_sem,hc_v1.1,hc_v1.2,hm_v1,hk_v1,eqF h2,eqT h5,h7,h8,h9,eZt h11]
    ·obtain ⟨x04,g12,b4⟩:=ae b4
     obtain ⟨h13,h14,h15⟩:=al g12
     cases b4
     simp(config:=cS)only[go_sem,hc_v1.1,hc_v1.2,hm_v1,hk_v1,eqF h2,eqT h5,h7,h8,h9,eZf h11,h13,h14,h15]
     refine aq gb4 ?_
     simp(config:=cS)only[go_sem,hc_v1.1,hc_v1.2,hm_v1,hk_v1,eqF h2,eqT h5,h7,h8,h9,eZf h11,h13,h14,h15]
   ·cases b4
    obtain rfl:=(ak gb4).symm
    try dsimp only at h
    obtain ⟨h17,h⟩:=ai h
    obtain ⟨h18,h⟩:=ai h
    obtain ⟨h19,h⟩:=ai h
    cases h
    simp(config:=cS)only[go_sem,hc_v1.1,hc_v1.2,hm_v1,hk_v1,eqF h2,eqF h5,eqT h17,eqT h18,eqT h19]
attribute [go_sem] Tryz.ntmps268 Tryz.results268
theorem uf {n:Int}{res:Bool}(h:iy n=some res):an Tryz.prog 268 [.lit (.int .i64 n)] [] (.lit (.bool res)) []:=by
 refine aj (ra:=[]) (md:=mdT) hT (hi:=hi00) Tryz.func268 rfl rfl (by decide +kernel) (by simp) ?_
 unfold iy at h
 obtain ⟨h1,h⟩|⟨h1,h⟩:=af h
 ·cases h
  simp(config:=cS)only[go_sem,eqT h1]
 ·cases h
  simp(config:=cS)only[go_sem,eqF h1]
attribute [go_sem] Tryz.ntmps201 Tryz.results201
theorem zd {v:List Int}{res:Bool}(h:iz v=some res):an Tryz.prog 201 [.sl (ab eI v)] [] (.lit (.bool res)) []:=by
 refine aj (ra:=[]) (md:=mdT) hT (hi:=hi00) Tryz.func201 rfl rfl (by decide +kernel) (by simp) ?_
 unfold iz at h
 obtain ⟨h1,h⟩|⟨h1,h⟩:=af h
 ·obtain ⟨r01,g2,h⟩:=ae h
  simp(config:=cS)only[go_sem,eqT h1]
  refine ag (gz (by exact fun _ _ hr=>uf hr) (by refine ⟨fun _=>?_,fun _=>?_⟩ <;> simp only [go_sem]) (fun _=>rfl) rfl g2) ?_
  cases h
  simp(config:=cS)only[go_sem]
 ·cases h
  simp(config:=cS)only[go_sem,eqF h1]
attribute [go_sem] Tryz.ntmps202 Tryz.results202
theorem Eh {l:Int}{v:List Int}{res:Int}(h:kO l v=some res):an Tryz.prog 202 [.lit (.int .i64 l),.sl (ab eI v)] [] (.lit (.int .i64 res)) []:=by
 refine aj (ra:=[]) (md:=mdT) hT (hi:=hi00) Tryz.func202 rfl rfl (by decide +kernel) (by simp) ?_
 unfold kO at h
 obtain ⟨r01,g1,h⟩:=ae h
 simp(config:=cS)only[go_sem]
 refine ag (ia g1) ?_
 obtain ⟨x02,g2,h⟩:=ae h
 obtain ⟨h3,h4,h5⟩:=al g2
 obtain ⟨h6,h⟩|⟨h6,h⟩:=af h
 ·cases h
  simp(config:=cS)only[go_sem,h3,h4,h5,eqT h6]
 ·cases h
  simp(config:=cS)only[go_sem,h3,h4,h5,eqF h6]
def lp (v a:List Int)(b:Int):(Int × Int)→St
 | (c,d)=>⟨[(1,.sl (ab eI v)),(5,.lit (.int .i64 c)),(16,.sl (ab eI a)),(17,.lit (.int .i64 b)),(18,.lit (.int .i64 d))],[],2⟩
attribute [go_sem] lp
attribute [go_sem] Tryz.ntmps126 Tryz.results126
theorem vD {l v:List Int}{res:Int}(h:gm l v=some res):an Tryz.prog 126 [.sl (ab eI l),.sl (ab eI v)] [] (.lit (.int .i64 res)) []:=by
 refine aj (ra:=[]) (md:=mdT) hT (hi:=hi00) Tryz.func126 rfl rfl (by decide +kernel) (by simp) ?_
 unfold gm at h
 obtain ⟨r01,g1,h⟩:=ae h
 simp(config:=cS)only[go_sem]
 refine ag (jh g1) ?_
 obtain ⟨h2,h⟩|⟨h2,h⟩:=af h
 ·obtain ⟨r02,g3,h⟩:=ae h
  simp(config:=cS)only[go_sem,eZt h2]
  refine ag (zd g3) ?_
  obtain ⟨h4,h⟩|⟨h4,h⟩:=af h
  ·obtain ⟨q05,l5,h⟩:=ae h
   simp(config:=cS)only[go_sem,eZt h2,eZt h4]
   refine ap (m1:=.mk) (m2:=.mk) [.nf [1,5,16,17,18] []] (lp v l ((l.length:Nat):Int)) l5 ?_ ?_
   ·simp(config:=cS)only[go_sem,eZt h2,eZt h4]
   ·intro nb6 sb6 bb6 b6 gb6
    obtain ⟨out_1,v18_1⟩:=sb6
    unfold dO at b6
    try dsimp only at b6
    obtain ⟨h7,b6⟩|⟨h7,b6⟩:=af b6
    ·obtain ⟨x03,g8,b6⟩:=ae b6
     obtain ⟨h9,h10,h11⟩:=al g8
     obtain ⟨r04,g12,b6⟩:=ae b6
     simp(config:=cS)only[go_sem,eZt h2,eZt h4,eqT h7,h9,h10,h11]
     refine ag (Eh g12) ?_
     cases b6
     simp(config:=cS)only[go_sem,eZt h2,eZt h4,eqT h7,h9,h10,h11]
     refine aq gb6 ?_
     simp(config:=cS)only[go_sem,eZt h2,eZt h4,eqT h7,h9,h10,h11]
    ·cases b6
     obtain rfl:=(ak gb6).symm
     try dsimp only at h
     cases h
     simp(config:=cS)only[go_sem,eZt h2,eZt h4,eqF h7]
  ·cases h
   simp(config:=cS)only[go_sem,eZt h2,eZf h4]
 ·cases h
  simp(config:=cS)only[go_sem,eZf h2]
@[go_sem] def hi279_1:DT:=.i2 0 (.i2 1 (.i2 2 (.i2 3 (.i2 4 (.i2 5 (.i2 6 (.i2 7 (.i2 8 (.i2 9 .nil)))))))))
def Ds:Hint where
 acts:=fun _=>[]
 draws:=fun
  | 1=>⟨hi279_1,[[],[0],[],[0,1,2],[0,1,2,3],.range 5,[],[6],.range 8,.range 9],.range 10⟩
  | _=>⟨.nil,[],[]⟩
theorem Oh (i:Nat):Ds.acts i=[]:=rfl
theorem Oi (i:Nat):Ds.views i=none:=rfl
attribute [go_sem] Oh Oi Tryz.ntmps279 Tryz.results279
@[go_sem] theorem Qg:(Ds.draws 1).order=hi279_1:=rfl
theorem xa {s:GShow}{v1:GState}{node res:Int}(h:jI s v1 node=some res):an Tryz.prog 279 [.agg (GShow.encS s),.agg (GState.encS v1),.lit (.int .i64 node)] [] (.lit (.int .i64 res)) []:=by
 refine aj (ra:=[]) (md:=mdT) hT (hi:=Ds) Tryz.func279 rfl rfl (by decide +kernel) (by simp) ?_
 unfold jI at h
 obtain ⟨x01,g1,h⟩:=ae h
 obtain ⟨h2,h3,h4⟩:=al g1
 obtain ⟨r02,g5,h⟩:=ae h
 simp(config:=cS)only[go_sem,h2,h3,h4]
 refine ag (vD g5) ?_
 cases h
 simp(config:=cS)only[go_sem]
attribute [go_sem] Tryz.ntmps306 Tryz.results306
theorem vE {i:Int}{v1:GState}{s:GShow}{res:Bool}(h:iZ i v1 s=some res):an Tryz.prog 306 [.lit (.int .i64 i),.loc [.lit (.int .i64 v1.now),.sl (ab eI v1.times),.sl (ab eI v1.values)],.loc [.sl (ab GNode.encS s.nodes),.sl (ab GTie.enc s.ties),.lit (.int .i64 s.horizon)]] [] (.lit (.bool res)) []:=by
 refine aj (ra:=[]) (md:=mdT) hT (hi:=hi00) Tryz.func306 rfl rfl (by decide +kernel) (by simp) ?_
 unfold iZ at h
 obtain ⟨x01,g1,h⟩:=ae h
 obtain ⟨h2,h3,h4⟩:=al g1
 obtain ⟨h5,h⟩|⟨h5,h⟩:=af h
 ·obtain ⟨r02,g6,h⟩:=ae h
  simp(config:=cS)only[go_sem,h2,h3,h4,eqT h5]
  refine ag (xa g6) ?_
  cases h
  simp(config:=cS)only[go_sem]
 ·cases h
  simp(config:=cS)only[go_sem,h2,h3,h4,eqF h5]
attribute [go_sem] Tryz.ntmps267 Tryz.results267
theorem AD {s:GShow}{v1:GState}{res:List Int}(h:ju s v1=some res):an Tryz.prog 267 [.agg (GShow.encS s),.agg (GState.encS v1)] [] (.ref 20000 1 0 res.length) [(20000,1,.row false (ab eI res))]:=by
 refine aj (ra:=[.home 4,.trim 4]) (md:=mdT) hT (hi:=hi00) Tryz.func267 rfl rfl (by decide +kernel) (by simp) ?_
 unfold ju at h
 obtain ⟨r01,g1,h⟩:=ae h
 simp(config:=cS)only[go_sem]
 refine ag (Cs g1) ?_
 obtain ⟨r02,g2,h⟩:=ae h
 simp(config:=cS)only[go_sem]
 refine ag (qD (by exact fun _ _ hr=>vE hr) (by refine ⟨fun _=>?_,fun _=>?_⟩ <;> simp only [go_sem]) (fun _=>rfl) rfl g2) ?_
 cases h
 simp(config:=cS)only[go_sem]
def lJ (a:List Int):(Int × (List (List Int)))→St
 | (c,b)=>⟨[(5,.ref 640 1 0 a.length),(6,.ref 447 1 0 b.length),(7,.lit (.int .i64 c))],[(640,1,.row false (ab eI a)),(447,1,.row true (ab (eLO eI) b))],2⟩
attribute [go_sem] lJ
attribute [go_sem] Tryz.ntmps195 Tryz.results195
theorem xb {s:GShow}{v1:GState}{res:List (List Int)}(h:gY s v1=some res):an Tryz.prog 195 [.agg (GShow.encS s),.agg (GState.encS v1)] [] (.ref 20000 1 0 res.length) [(20000,1,.row true (ab (eLO eI) res))]:=by
 refine aj (ra:=[.home 4]) (md:=mdT) hT (hi:=hi00) Tryz.func195 rfl rfl (by decide +kernel) (by simp) ?_
 unfold gY at h
 obtain ⟨r01,g1,h⟩:=ae h
 simp(config:=cS)only[go_sem]
 refine ag (AD g1) ?_
 obtain ⟨h2,h⟩:=ai h
 obtain ⟨q03,l3,h⟩:=ae h
 simp(config:=cS)only[go_sem,eqF h2]
 refine ap (m1:=.mk) (m2:=.mk) [.home 6,.nf [5,6,7] [640,447]] (lJ r01) l3 ?_ ?_
 ·simp(config:=cS)only[go_sem]
 ·intro nb4 sb4 bb4 b4 gb4
  obtain ⟨set_1,out_1⟩:=sb4
  unfold eG at b4
  try dsimp only at b4
  obtain ⟨h5,b4⟩|⟨h5,b4⟩:=af b4
  ·obtain ⟨r02,g6,b4⟩:=ae b4
   simp(config:=cS)only[go_sem,eqT h5]
   refine ag (rI g6) ?_
   obtain ⟨h7,b4⟩:=ai b4
   obtain ⟨h8,b4⟩:=ai b4
   cases b4
   simp(config:=cS)only[go_sem,eqT h7,eqT h8]
   refine aq gb4 ?_
   simp(config:=cS)only[go_sem]
  ·cases b4
   obtain rfl:=(ak gb4).symm
   try dsimp only at h
   cases h
   simp(config:=cS)only[go_sem,eqF h5]
def nN (h:List Int)(i:Int)(j:List GNode)(k:List GTie)(l e:Int)(f g:List Int)(d:Int)(b:List Int):(Int × (List Int) × (List Int))→St
 | (m,a,c)=>⟨[(3,.ptr 192 1 0 0),(4,.ptr 256 1 0 0),(6,.ptr 384 1 0 0),(8,.ptr 512 1 0 0),(9,.ref 639 1 0 a.length),(14,.sl (ab eI h)),(15,.lit (.int .i64 i)),(16,.lit (.int .i64 m))],[(192,1,.var [.sl (ab GNode.encS j),.sl (ab GTie.enc k),.lit (.int .i64 l)]),(256,1,.var [.lit (.int .i64 e),.sl (ab eI f),.sl (ab eI g)]),(384,1,.var [.lit (.int .i64 0),.lit (.slice none 0 0),.lit (.slice none 0 0)]),(512,1,.var [.lit (.int .i64 d),.ref 832 1 0 c.length,.ref 833 1 0 b.length]),(832,1,.row true (ab eI c)),(833,1,.row true (ab eI b)),(639,1,.row true (ab eI a))],2⟩
attribute [go_sem] nN
attribute [go_sem] Tryz.ntmps196 Tryz.results196
theorem AE {s:GShow}{v1:GState}{nodes:List Int}{res:GState × (List Int)}(h:jv s v1 nodes=some res):an Tryz.prog 196 [.agg (GShow.encS s),.agg (GState.encS v1),.sl (ab eI nodes)] [] (.tup [.agg [.lit (.int .i64 res.1.now),.ref 20000 1 0 res.1.times.length,.ref 20001 1 0 res.1.values.length],.ref 20002 1 0 res.2.length]) [(20000,1,.row true (ab eI res.1.times)),(20001,1,.row true (ab eI res.1.values)),(20002,1,.row true (ab eI res.2))]:=by
 refine aj (ra:=[.homeCell 384 1,.homeCell 384 2,.home 7]) (md:=mdT) hT (hi:=hi00) Tryz.func196 rfl rfl (by decide +kernel) (by simp) ?_
 unfold jv at h
 obtain ⟨r01,g1,h⟩:=ae h
 simp(config:=cS)only[go_sem]
 refine ag (mh g1) ?_
 obtain ⟨q06,l2,h⟩:=ae h
 simp(config:=cS)only[go_sem]
 refine ap (m1:=.mk) (m2:=.mk) [.home 9,.nf [3,4,6,8,9,14,15,16] [192,256,384,512,832,833,639]] (nN nodes ((nodes.length:Nat):Int) s.nodes s.ties s.horizon v1.now v1.times v1.values r01.now r01.values) l2 ?_ ?_
 ·simp(config:=cS)only[go_sem]
 ·intro nb3 sb3 bb3 b3 gb3
  obtain ⟨v16_1,props_1,h832_1⟩:=sb3
  unfold gn at b3
  try dsimp only at b3
  obtain ⟨h4,b3⟩|⟨h4,b3⟩:=af b3
  ·obtain ⟨x02,g5,b3⟩:=ae b3
   obtain ⟨h6,h7,h8⟩:=al g5
   obtain ⟨x03,g9,b3⟩:=ae b3
   obtain ⟨h10,h11,h12⟩:=al g9
   obtain ⟨x04,g13,b3⟩:=ae b3
   obtain ⟨h14,h15,h16⟩:=al g13
   obtain ⟨h17,b3⟩|⟨h17,b3⟩:=af b3
   ·cases b3
    simp(config:=cS)only[go_sem,eqT h4,h6,h7,h8,h10,h11,h12,h14,h15,h16,eqT h17]
    refine aq gb3 ?_
    simp(config:=cS)only[go_sem]
   ·obtain ⟨h18,b3⟩:=ai b3
    obtain ⟨h19,b3⟩:=ai b3
    cases b3
    simp(config:=cS)only[go_sem,eqT h4,h6,h7,h8,h10,h11,h12,h14,h15,h16,eqF h17,eqT h18,eqT h19]
    refine aq gb3 ?_
    simp(config:=cS)only[go_sem]
  ·cases b3
   obtain rfl:=(ak gb3).symm
   try dsimp only at h
   obtain ⟨r05,g21,h⟩:=ae h
   simp(config:=cS)only[go_sem,eqF h4]
   refine ag (pG g21) ?_
   obtain ⟨h22,h⟩:=ai h
   cases h
   simp(config:=cS)only[go_sem,h22.symm]
def mK (a e:List Int)(f d:Int)(b:List Int):(Int × (List Int))→St
 | (g,c)=>⟨[(2,.sl (ab eI a)),(6,.ptr 384 1 0 0),(7,.ptr 448 1 0 0),(12,.sl (ab eI e)),(13,.lit (.int .i64 f)),(14,.lit (.int .i64 g))],[(384,1,.var [.lit (.int .i64 0),.lit (.slice none 0 0),.lit (.slice none 0 0)]),(448,1,.var [.lit (.int .i64 d),.ref 704 1 0 b.length,.ref 705 1 0 c.length]),(704,1,.row true (ab eI b)),(705,1,.row true (ab eI c))],2⟩
attribute [go_sem] mK
@[go_sem] def hi198_5:DT:=.i2 0 (.i2 1 (.i2 2 (.i2 3 (.i2 4 (.i2 5 (.i2 6 (.i2 7 (.i2 8 (.i2 9 .nil)))))))))
def Dt:Hint where
 acts:=fun _=>[]
 draws:=fun
  | 5=>⟨hi198_5,[[],[0],[],[2],[],[],[4,5],[4,5,6],.range 8,.range 9],.range 10⟩
  | _=>⟨.nil,[],[]⟩
theorem Oj (i:Nat):Dt.acts i=[]:=rfl
theorem Ok (i:Nat):Dt.views i=none:=rfl
attribute [go_sem] Oj Ok Tryz.ntmps198 Tryz.results198
@[go_sem] theorem Qh:(Dt.draws 5).order=hi198_5:=rfl
theorem ze {v0:GState}{props values:List Int}{res:GState}(h:iA v0 props values=some res):an Tryz.prog 198 [.agg (GState.encS v0),.sl (ab eI props),.sl (ab eI values)] [] (.agg [.lit (.int .i64 res.now),.ref 20000 1 0 res.times.length,.ref 20001 1 0 res.values.length]) [(20000,1,.row true (ab eI res.times)),(20001,1,.row true (ab eI res.values))]:=by
 refine aj (ra:=[.homeCell 384 1,.homeCell 384 2]) (md:=mdT) hT (hi:=Dt) Tryz.func198 rfl rfl (by decide +kernel) (by simp) ?_
 unfold iA at h
 obtain ⟨r01,g1,h⟩:=ae h
 simp(config:=cS)only[go_sem]
 refine ag (mh g1) ?_
 obtain ⟨q05,l2,h⟩:=ae h
 simp(config:=cS)only[go_sem]
 refine ap (m1:=.mk) (m2:=.mk) [.nf [2,6,7,12,13,14] [384,448,704,705]] (mK values props ((props.length:Nat):Int) r01.now r01.times) l2 ?_ ?_
 ·simp(config:=cS)only[go_sem]
 ·intro nb3 sb3 bb3 b3 gb3
  obtain ⟨v14_1,h705_1⟩:=sb3
  unfold fw at b3
  try dsimp only at b3
  obtain ⟨h4,b3⟩|⟨h4,b3⟩:=af b3
  ·obtain ⟨x02,g5,b3⟩:=ae b3
   obtain ⟨h6,h7,h8⟩:=al g5
   obtain ⟨x03,g9,b3⟩:=ae b3
   obtain ⟨h10,h11,h12⟩:=al g9
   obtain ⟨x04,g13,b3⟩:=ae b3
   obtain ⟨h14,h15,h16⟩:=al g13
   cases b3
   simp(config:=cS)only[go_sem,eqT h4,h6,h7,h8,h10,h11,h12,h14,h15,h16]
   refine aq gb3 ?_
   simp(config:=cS)only[go_sem]
  ·cases b3
   obtain rfl:=(ak gb3).symm
   try dsimp only at h
   cases h
   simp(config:=cS)only[go_sem,eqF h4]
def pk (g:List Int)(h e:Int)(b c d:List Int):(Int × (List Int) × (List Int))→St
 | (i,f,a)=>⟨[(6,.ptr 384 1 0 0),(9,.ptr 576 1 0 0),(10,.ref 3458 1 0 d.length),(11,.ref 767 1 0 f.length),(12,.ref 831 1 0 a.length),(58,.sl (ab eI g)),(59,.lit (.int .i64 h)),(60,.lit (.int .i64 i))],[(384,1,.var [.lit (.int .i64 0),.lit (.slice none 0 0),.lit (.slice none 0 0)]),(576,1,.var [.lit (.int .i64 e),.ref 3456 1 0 b.length,.ref 3457 1 0 c.length]),(3456,1,.row true (ab eI b)),(3457,1,.row true (ab eI c)),(3458,1,.row true (ab eI d)),(767,1,.row true (ab eI f)),(831,1,.row true (ab eI a))],2⟩
attribute [go_sem] pk
@[go_sem] def hi110_4:DT:=.i2 0 (.i2 1 (.i1 3 (.i1 4 (.i0 2 [3,4] (.i2 5 (.i2 6 .nil))))))
@[go_sem] def hi110_1:DT:=.i2 0 (.i2 1 (.i2 2 (.i2 3 (.i2 4 (.i2 5 (.i2 6 (.i2 7 (.i1 9 (.i1 10 (.i0 8 [9,10] (.i2 11 (.i2 12 (.i2 13 (.i2 14 (.i2 15 (.i2 16 (.i2 17 (.i2 18 (.i2 19 .nil)))))))))))))))))))
def zf:Hint where
 acts:=fun _=>[]
 draws:=fun
  | 1=>⟨hi110_1,[[],[0],[],[2],[0,1,2,3],.range 5,.range 6,.range 6,.range 8,.range 6,[0,1,2,3,4,5,9],.range 11,.range 12,.range 13,.range 14,.range 15,.range 16,.range 17,.range 18,.range 19],.range 20⟩
  | 4=>⟨hi110_4,[[],[],[0,1],[],[3],.range 5,.range 6],.range 7⟩
  | _=>⟨.nil,[],[]⟩
theorem Ol (i:Nat):zf.acts i=[]:=rfl
theorem Om (i:Nat):zf.views i=none:=rfl
attribute [go_sem] Ol Om Tryz.ntmps110 Tryz.results110
@[go_sem] theorem Qi:(zf.draws 1).order=hi110_1:=rfl
@[go_sem] theorem Qj:(zf.draws 4).order=hi110_4:=rfl
theorem Ei {s:GShow}{v1:GState}{e:GEntry}{res:GState × Bool}(h:kP s v1 e=some res):an Tryz.prog 110 [.agg (GShow.encS s),.agg (GState.encS v1),.agg (GEntry.encS e)] [] (.tup [.agg [.lit (.int .i64 res.1.now),.ref 20000 1 0 res.1.times.length,.ref 20001 1 0 res.1.values.length],.lit (.bool res.2)]) [(20000,1,.row true (ab eI res.1.times)),(20001,1,.row true (ab eI res.1.values))]:=by
 refine aj (ra:=[.homeCell 384 1,.homeCell 384 2]) (md:=mdT) hT (hi:=zf) Tryz.func110 rfl rfl (by decide +kernel) (by simp) ?_
 unfold kP at h
 obtain ⟨h1,h⟩|⟨h1,h⟩:=af h
 ·obtain ⟨r01,g2,h⟩:=ae h
  simp(config:=cS)only[go_sem,eqT h1]
  refine ag (AB g2) ?_
  obtain ⟨r02,g3,h⟩:=ae h
  simp(config:=cS)only[go_sem,eqT h1]
  refine ag (zb g3) ?_
  obtain ⟨h4,h⟩|⟨h4,h⟩:=af h
  ·obtain ⟨r03,g5,h⟩:=ae h
   simp(config:=cS)only[go_sem,eqT h1,eZt h4]
   refine ag (jh g5) ?_
   obtain ⟨h6,h⟩|⟨h6,h⟩:=af h
   ·obtain ⟨r04,g7,h⟩:=ae h
    simp(config:=cS)only[go_sem,eqT h1,eZt h4,eZt h6]
    refine ag (Eg g7) ?_
    obtain ⟨r05,g8,h⟩:=ae h
    simp(config:=cS)only[go_sem,eqT h1,eZt h4,eZt h6]
    refine ag (xb g8) ?_
    obtain ⟨r06,g9,h⟩:=ae h
    simp(config:=cS)only[go_sem,eqT h1,eZt h4,eZt h6]
    refine ag (zb g9) ?_
    obtain ⟨h10,h⟩|⟨h10,h⟩:=af h
    ·obtain ⟨r07,g11,h⟩:=ae h
     simp(config:=cS)only[go_sem,eqT h1,eZt h4,eZt h6,eZt h10]
     refine ag (AE g11) ?_
     obtain ⟨q13,l12,h⟩:=ae h
     simp(config:=cS)only[go_sem,eqT h1,eZt h4,eZt h6,eZt h10]
     refine ap (m1:=.mk) (m2:=.mk) [.home 11,.home 12,.nf [6,9,10,11,12,58,59,60] [384,576,3456,3457,3458,767,831]] (pk e.values ((e.values.length:Nat):Int) r07.1.now r07.1.times r07.1.values r07.2) l12 ?_ ?_
     ·simp(config:=cS)only[go_sem,eqT h1,eZt h4,eZt h6,eZt h10]
     ·intro nb13 sb13 bb13 b13 gb13
      obtain ⟨v60_1,seen_1,values_1⟩:=sb13
      unfold iB at b13
      try dsimp only at b13
      obtain ⟨h14,b13⟩|⟨h14,b13⟩:=af b13
      ·obtain ⟨x08,g15,b13⟩:=ae b13
       obtain ⟨h16,h17,h18⟩:=al g15
       obtain ⟨r09,g19,b13⟩:=ae b13
       simp(config:=cS)only[go_sem,eqT h1,eZt h4,eZt h6,eZt h10,eqT h14,h16,h17,h18]
       refine ag (ia g19) ?_
       obtain ⟨h20,b13⟩:=ai b13
       obtain ⟨h21,b13⟩:=ai b13
       obtain ⟨r10,g22,b13⟩:=ae b13
       simp(config:=cS)only[go_sem,eqT h1,eZt h4,eZt h6,eZt h10,eqT h14,h16,h17,h18,eqT h20,eqT h21]
       refine ag (ia g22) ?_
       obtain ⟨h23,b13⟩:=ai b13
       obtain ⟨h24,b13⟩:=ai b13
       obtain ⟨h25,b13⟩:=ai b13
       cases b13
       simp(config:=cS)only[go_sem,eqT h1,eZt h4,eZt h6,eZt h10,eqT h14,h16,h17,h18,eqT h20,eqT h21,eqF h23,eqT h24,eqT h25]
       refine aq gb13 ?_
       simp(config:=cS)only[go_sem,eqT h1,eZt h4,eZt h6,eZt h10,eqT h14,h16,h17,h18,eqT h20,eqT h21,eqF h23,eqT h24,eqT h25]
      ·cases b13
       obtain rfl:=(ak gb13).symm
       try dsimp only at h
       obtain ⟨r11,g27,h⟩:=ae h
       simp(config:=cS)only[go_sem,eqT h1,eZt h4,eZt h6,eZt h10,eqF h14]
       refine ag (kK g27) ?_
       obtain ⟨h28,h⟩|⟨h28,h⟩:=af h
       ·obtain ⟨r12,g29,h⟩:=ae h
        simp(config:=cS)only[go_sem,eqT h1,eZt h4,eZt h6,eZt h10,eqF h14,eZt h28]
        refine ag (ze g29) ?_
        cases h
        simp(config:=cS)only[go_sem,eqT h1,eZt h4,eZt h6,eZt h10,eqF h14,eZt h28]
       ·cases h
        simp(config:=cS)only[go_sem,eqT h1,eZt h4,eZt h6,eZt h10,eqF h14,eZf h28]
    ·cases h
     simp(config:=cS)only[go_sem,eqT h1,eZt h4,eZt h6,eZf h10]
   ·cases h
    simp(config:=cS)only[go_sem,eqT h1,eZt h4,eZf h6]
  ·cases h
   simp(config:=cS)only[go_sem,eqT h1,eZf h4]
 ·cases h
  simp(config:=cS)only[go_sem,eqF h1]
def lK (d:List GEntry)(e:Int)(f:List GNode)(g:List GTie)(h:Int):(Int × Int × (List Int) × (List Int))→St
 | (i,c,a,b)=>⟨[(2,.ptr 128 1 0 0),(4,.ptr 256 1 0 0),(6,.ptr 384 1 0 0),(17,.sl (ab GEntry.encS d)),(18,.lit (.int .i64 e)),(19,.lit (.int .i64 i))],[(128,1,.var [.sl (ab GNode.encS f),.sl (ab GTie.enc g),.lit (.int .i64 h)]),(256,1,.var [.lit (.int .i64 0),.lit (.slice none 0 0),.lit (.slice none 0 0)]),(384,1,.var [.lit (.int .i64 c),.ref 1024 1 0 a.length,.ref 1025 1 0 b.length]),(1024,1,.row true (ab eI a)),(1025,1,.row true (ab eI b))],2⟩
attribute [go_sem] lK
attribute [go_sem] Tryz.ntmps45 Tryz.results45
theorem xc {s:GShow}{log:List GEntry}{res:GState × Bool}(h:gZ s log=some res):an Tryz.prog 45 [.agg (GShow.encS s),.sl (ab GEntry.encS log)] [] (.tup [.agg [.lit (.int .i64 res.1.now),.ref 20000 1 0 res.1.times.length,.ref 20001 1 0 res.1.values.length],.lit (.bool res.2)]) [(20000,1,.row true (ab eI res.1.times)),(20001,1,.row true (ab eI res.1.values))]:=by
 refine aj (ra:=[.homeCell 256 1,.homeCell 256 2]) (md:=mdT) hT (hi:=hi00) Tryz.func45 rfl rfl (by decide +kernel) (by simp) ?_
 unfold gZ at h
 obtain ⟨r01,g1,h⟩:=ae h
 simp(config:=cS)only[go_sem]
 refine ag (sR g1) ?_
 obtain ⟨h2,h⟩|⟨h2,h⟩:=af h
 ·obtain ⟨r02,g3,h⟩:=ae h
  simp(config:=cS)only[go_sem,eZt h2]
  refine ag (vA g3) ?_
  obtain ⟨q05,l4,h⟩:=ae h
  simp(config:=cS)only[go_sem]
  refine ap (m1:=.mk) (m2:=.mk) [.nfp [2,4,6,17,18,19] [(128,128),(256,256),(384,384),(1728,1024),(1024,1024),(1729,1025),(1025,1025)] []] (lK log ((log.length:Nat):Int) s.nodes s.ties s.horizon) l4 ?_ ?_
  ·simp(config:=cS)only[go_sem]
  ·intro nb5 sb5 bb5 b5 gb5
   obtain ⟨v19_1,v6_0_1,h1024_1,h1025_1⟩:=sb5
   unfold eH at b5
   try dsimp only at b5
   obtain ⟨h6,b5⟩|⟨h6,b5⟩:=af b5
   ·obtain ⟨x03,g7,b5⟩:=ae b5
    obtain ⟨h8,h9,h10⟩:=al g7
    obtain ⟨r04,g11,b5⟩:=ae b5
    simp(config:=cS)only[go_sem,eqT h6,h8,h9,h10]
    refine ag (Ei g11) ?_
    obtain ⟨h12,b5⟩|⟨h12,b5⟩:=af b5
    ·cases b5
     simp(config:=cS)only[go_sem,eZt h12]
     refine aq gb5 ?_
     simp(config:=cS)only[go_sem]
    ·cases b5
     obtain rfl:=(ak gb5).symm
     try dsimp only at h
     cases h
     simp(config:=cS)only[go_sem,eZf h12]
   ·cases b5
    obtain rfl:=(ak gb5).symm
    try dsimp only at h
    cases h
    simp(config:=cS)only[go_sem,eqF h6]
 ·cases h
  simp(config:=cS)only[go_sem,eZf h2]
attribute [go_sem] Tryz.ntmps155 Tryz.results155
theorem pl {v0 res:List GTie}(h:fD v0=some res):an Tryz.prog 155 [.sl (ab GTie.enc v0)] [] (.ref 20000 1 0 res.length) [(20000,1,.row true (ab GTie.enc res))]:=by
 refine aj (ra:=[.home 2]) (md:=mdT) hT (hi:=hi00) Tryz.func155 rfl rfl (by decide +kernel) (by simp) ?_
 unfold fD at h
 obtain ⟨h1,h3,h2⟩|⟨h1,h3⟩:=BC h
 ·cases h3
  simp(config:=cS)only[go_sem,h1]
 ·obtain ⟨h4,h3⟩:=ai h3
  obtain ⟨h5,h3⟩:=ai h3
  cases h3
  simp(config:=cS)only[go_sem,yy h1,eqT h4,eqT h5]
def jl (d:List GNode)(e c:Int)(b:List GTie):(Int × (List GNode))→St
 | (f,a)=>⟨[(2,.ptr 128 1 0 0),(3,.ptr 192 1 0 0),(13,.sl (ab GNode.encS d)),(14,.lit (.int .i64 e)),(15,.lit (.int .i64 f))],[(128,1,.var [.lit (.slice none 0 0),.lit (.slice none 0 0),.lit (.int .i64 0)]),(192,1,.var [.ref 100012288 1 0 a.length,.ref 512 1 0 b.length,.lit (.int .i64 c)]),(100012288,1,.row true (ab GNode.encO a)),(512,1,.row true (ab GTie.enc b))],2⟩
attribute [go_sem] jl
@[go_sem] def hi84_1:DT:=.i1 0 (.i1 1 (.i1 3 (.i1 4 (.fork (.i0 2 [3,4] (.i2 5 (.i0 6 [0,1,3,4] (.i2 7 .nil)))) (.i0 6 [0,1,3,4] (.i0 2 [3,4] (.i2 5 (.i2 7 .nil))))))))
def hi84:Hint where
 acts:=fun _=>[]
 draws:=fun
  | 1=>⟨hi84_1,[[],[0],[0,1],[],[3],.range 5,[],.range 7],.range 8⟩
  | _=>⟨.nil,[],[]⟩
theorem Pg (i:Nat):hi84.acts i=[]:=rfl
theorem Ph (i:Nat):hi84.views i=none:=rfl
attribute [go_sem] Pg Ph Tryz.ntmps84 Tryz.results84
@[go_sem] theorem Qp:(hi84.draws 1).order=hi84_1:=rfl
theorem zg {s res:GShow}(h:iG s=some res):an Tryz.prog 84 [.agg (GShow.encS s)] [] (.agg [.ref 20000 1 0 res.nodes.length,.ref 20001 1 0 res.ties.length,.lit (.int .i64 res.horizon)]) [(20000,1,.row true (ab GNode.encO res.nodes)),(20001,1,.row true (ab GTie.enc res.ties))]:=by
 refine aj (ra:=[.homeCell 128 0,.homeCell 128 1]) (md:=mdT) hT (hi:=hi84) Tryz.func84 rfl rfl (by decide +kernel) (by simp) ?_
 unfold iG at h
 try simp(config:=cS)only[go_sem]
 refine fi ?_ ?_
 ·obtain ⟨r01,g1,h⟩:=ae h
  simp(config:=cS)only[go_sem]
  refine ag (pl g1) ?_
  obtain ⟨q04,l2,h⟩:=ae h
  simp(config:=cS)only[go_sem]
  refine ap (m1:=.mk) (m2:=.mk) [.homeCell 192 0,.nf [2,3,13,14,15] [128,192,100012288,512]] (jl s.nodes ((s.nodes.length:Nat):Int) s.horizon r01) l2 ?_ ?_
  ·simp(config:=cS)only[go_sem]
  ·intro nb3 sb3 bb3 b3 gb3
   obtain ⟨v15_1,h100012288_1⟩:=sb3
   unfold dE at b3
   try dsimp only at b3
   obtain ⟨h4,b3⟩|⟨h4,b3⟩:=af b3
   ·obtain ⟨x02,g5,b3⟩:=ae b3
    obtain ⟨h6,h7,h8⟩:=al g5
    obtain ⟨r03,g9,b3⟩:=ae b3
    simp(config:=cS)only[go_sem,eqT h4,h6,h7,h8]
    refine ag (io g9) ?_
    obtain ⟨h10,b3⟩:=ai b3
    obtain ⟨h11,b3⟩:=ai b3
    cases b3
    simp(config:=cS)only[go_sem,eqT h10,eqT h11]
    refine aq gb3 ?_
    simp(config:=cS)only[go_sem]
   ·cases b3
    obtain rfl:=(ak gb3).symm
    try dsimp only at h
    cases h
    simp(config:=cS)only[go_sem,eqF h4]
 ·obtain ⟨r05,g13,h⟩:=ae h
  simp(config:=cS)only[go_sem]
  refine ag (pl g13) ?_
  obtain ⟨q08,l14,h⟩:=ae h
  simp(config:=cS)only[go_sem]
  refine ap (m1:=.mk) (m2:=.mk) [.homeCell 192 0,.nf [2,3,13,14,15] [128,192,100012288,512]] (jl s.nodes ((s.nodes.length:Nat):Int) s.horizon r05) l14 ?_ ?_
  ·simp(config:=cS)only[go_sem]
  ·intro nb15 sb15 bb15 b15 gb15
   obtain ⟨v15_2,h100012288_2⟩:=sb15
   unfold dE at b15
   try dsimp only at b15
   obtain ⟨h16,b15⟩|⟨h16,b15⟩:=af b15
   ·obtain ⟨x06,g17,b15⟩:=ae b15
    obtain ⟨h18,h19,h20⟩:=al g17
    obtain ⟨r07,g21,b15⟩:=ae b15
    simp(config:=cS)only[go_sem,eqT h16,h18,h19,h20]
    refine ag (io g21) ?_
    obtain ⟨h22,b15⟩:=ai b15
    obtain ⟨h23,b15⟩:=ai b15
    cases b15
    simp(config:=cS)only[go_sem,eqT h22,eqT h23]
    refine aq gb15 ?_
    simp(config:=cS)only[go_sem]
   ·cases b15
    obtain rfl:=(ak gb15).symm
    try dsimp only at h
    cases h
    simp(config:=cS)only[go_sem,eqF h16]
@[go_sem] def hi32_5:DT:=.i2 0 (.i1 2 (.i2 3 (.i2 4 (.i0 1 [2] (.i2 5 (.i2 6 (.i2 7 .nil)))))))
def hi32:Hint where
 acts:=fun _=>[]
 draws:=fun
  | 5=>⟨hi32_5,[[],[0],[],[],[],.range 5,.range 6,.range 7],.range 8⟩
  | _=>⟨.nil,[],[]⟩
theorem Pi (i:Nat):hi32.acts i=[]:=rfl
theorem Pj (i:Nat):hi32.views i=none:=rfl
attribute [go_sem] Pi Pj Tryz.ntmps32 Tryz.results32
@[go_sem] theorem Qq:(hi32.draws 5).order=hi32_5:=rfl
theorem qR {s:GShow}{text:ByteArray}{lazy:Bool}{res:GDesk × Bool}(h:fQ s text lazy=some res):an Tryz.prog 32 [.agg (GShow.encS s),.lit (.string text),.lit (.bool lazy)] [] (.tup [.agg [.ref 20000 1 0 res.1.show_.nodes.length,.ref 20001 1 0 res.1.show_.ties.length,.lit (.int .i64 res.1.show_.horizon),.lit (.int .i64 res.1.state.now),.ref 20002 1 0 res.1.state.times.length,.ref 20003 1 0 res.1.state.values.length,.lit (.bool res.1.lazy),.ref 20004 1 0 res.1.log.length],.lit (.bool res.2)]) [(20000,1,.row true (ab GNode.encO res.1.show_.nodes)),(20001,1,.row true (ab GTie.enc res.1.show_.ties)),(20002,1,.row true (ab eI res.1.state.times)),(20003,1,.row true (ab eI res.1.state.values)),(20004,1,.row true (ab GEntry.encO res.1.log))]:=by
 refine aj (ra:=[.homeCell 384 0,.homeCell 384 1,.homeCell 384 4,.homeCell 384 5,.homeCell 384 7]) (md:=mdT) hT (hi:=hi32) Tryz.func32 rfl rfl (by decide +kernel) (by simp) ?_
 unfold fQ at h
 obtain ⟨r01,g1,h⟩:=ae h
 simp(config:=cS)only[go_sem]
 refine ag (ud g1) ?_
 obtain ⟨r02,g2,h⟩:=ae h
 simp(config:=cS)only[go_sem]
 refine ag (xc g2) ?_
 obtain ⟨h3,h⟩|⟨h3,h⟩:=af h
 ·obtain ⟨r03,g4,h⟩:=ae h
  simp(config:=cS)only[go_sem,eZt h3]
  refine ag (zg g4) ?_
  cases h
  simp(config:=cS)only[go_sem,eZt h3]
 ·cases h
  simp(config:=cS)only[go_sem,eZf h3]
def oq (a b:List Int)(i:Int):St:=⟨[(0,.sl (ab eI a)),(1,.sl (ab eI b)),(5,.lit (.int .i64 i))],[],2⟩
attribute [go_sem] oq
@[go_sem] def hi18_6:DT:=.i2 0 (.i2 1 (.i2 2 (.i2 3 (.i2 4 (.i2 5 (.i2 6 (.i2 7 (.i2 8 .nil))))))))
def hi18:Hint where
 acts:=fun _=>[]
 draws:=fun
  | 6=>⟨hi18_6,[[],[],[0,1],[0,1,2],[],[],[4,5],[4,5,6],.range 8],.range 9⟩
  | _=>⟨.nil,[],[]⟩
theorem Pk (i:Nat):hi18.acts i=[]:=rfl
theorem Pl (i:Nat):hi18.views i=none:=rfl
attribute [go_sem] Pk Pl Tryz.ntmps18 Tryz.results18
@[go_sem] theorem Qr:(hi18.draws 6).order=hi18_6:=rfl
theorem ib {a b:List Int}{res:Bool}(h:cy a b=some res):an Tryz.prog 18 [.sl (ab eI a),.sl (ab eI b)] [] (.lit (.bool res)) []:=by
 refine aj (ra:=[]) (md:=mdT) hT (hi:=hi18) Tryz.func18 rfl rfl (by decide +kernel) (by simp) ?_
 unfold cy at h
 obtain ⟨h1,h⟩|⟨h1,h⟩:=af h
 ·obtain ⟨q03,l2,h⟩:=ae h
  simp(config:=cS)only[go_sem,eqT h1]
  refine ap (m1:=.mk) (m2:=.mk) [.nf [0,1,5] []] (oq a b) l2 ?_ ?_
  ·simp(config:=cS)only[go_sem]
  ·intro nb3 i_1 bb3 b3 gb3
   unfold eY at b3
   try dsimp only at b3
   obtain ⟨h4,b3⟩|⟨h4,b3⟩:=af b3
   ·obtain ⟨x01,g5,b3⟩:=ae b3
    obtain ⟨h6,h7,h8⟩:=al g5
    obtain ⟨x02,g9,b3⟩:=ae b3
    obtain ⟨h10,h11,h12⟩:=al g9
    obtain ⟨h13,b3⟩|⟨h13,b3⟩:=af b3
    ·cases b3
     simp(config:=cS)only[go_sem,eqT h4,h6,h7,h8,h10,h11,h12,eqT h13]
     refine aq gb3 ?_
     simp(config:=cS)only[go_sem]
    ·cases b3
     obtain rfl:=(ak gb3).symm
     try dsimp only at h
     cases h
     simp(config:=cS)only[go_sem,eqT h4,h6,h7,h8,h10,h11,h12,eqF h13]
   ·cases b3
    obtain rfl:=(ak gb3).symm
    try dsimp only at h
    cases h
    simp(config:=cS)only[go_sem,eqF h4]
 ·cases h
  simp(config:=cS)only[go_sem,eqF h1]
attribute [go_sem] Tryz.ntmps131 Tryz.results131
theorem Ct {a b:GNode}{res:Bool}(h:kg a b=some res):an Tryz.prog 131 [.agg (GNode.encS a),.agg (GNode.encS b)] [] (.lit (.bool res)) []:=by
 refine aj (ra:=[]) (md:=mdT) hT (hi:=hi00) Tryz.func131 rfl rfl (by decide +kernel) (by simp) ?_
 unfold kg at h
 obtain ⟨h1,h⟩|⟨h1,h⟩:=af h
 ·obtain ⟨r01,g2,h⟩:=ae h
  simp(config:=cS)only[go_sem,eqT h1]
  refine ag (ib g2) ?_
  obtain ⟨h3,h⟩|⟨h3,h⟩:=af h
  ·obtain ⟨h4,h⟩|⟨h4,h⟩:=af h
   ·cases h
    simp(config:=cS)only[go_sem,eZt h3,eqT h4]
   ·cases h
    simp(config:=cS)only[go_sem,eZt h3,eqF h4]
  ·cases h
   simp(config:=cS)only[go_sem,eZf h3]
 ·cases h
  simp(config:=cS)only[go_sem,eqF h1]
def nO (a b:List GNode)(i:Int):St:=⟨[(0,.sl (ab GNode.encS a)),(1,.sl (ab GNode.encS b)),(5,.lit (.int .i64 i))],[],2⟩
attribute [go_sem] nO
@[go_sem] def hi61_6:DT:=.i2 0 (.i2 1 (.i2 2 (.i2 3 (.i2 4 (.i2 5 (.i2 6 (.i2 7 (.i2 8 (.i2 9 .nil)))))))))
def hi61:Hint where
 acts:=fun _=>[]
 draws:=fun
  | 6=>⟨hi61_6,[[],[],[0,1],[0,1,2],[],[],[4,5],[4,5,6],.range 8,.range 9],.range 10⟩
  | _=>⟨.nil,[],[]⟩
theorem Pm (i:Nat):hi61.acts i=[]:=rfl
theorem Pn (i:Nat):hi61.views i=none:=rfl
attribute [go_sem] Pm Pn Tryz.ntmps61 Tryz.results61
@[go_sem] theorem Qs:(hi61.draws 6).order=hi61_6:=rfl
theorem AF {a b:List GNode}{res:Bool}(h:jw a b=some res):an Tryz.prog 61 [.sl (ab GNode.encS a),.sl (ab GNode.encS b)] [] (.lit (.bool res)) []:=by
 refine aj (ra:=[]) (md:=mdT) hT (hi:=hi61) Tryz.func61 rfl rfl (by decide +kernel) (by simp) ?_
 unfold jw at h
 obtain ⟨h1,h⟩|⟨h1,h⟩:=af h
 ·obtain ⟨q04,l2,h⟩:=ae h
  simp(config:=cS)only[go_sem,eqT h1]
  refine ap (m1:=.mk) (m2:=.mk) [.nf [0,1,5] []] (nO a b) l2 ?_ ?_
  ·simp(config:=cS)only[go_sem]
  ·intro nb3 i_1 bb3 b3 gb3
   unfold gp at b3
   try dsimp only at b3
   obtain ⟨h4,b3⟩|⟨h4,b3⟩:=af b3
   ·obtain ⟨x01,g5,b3⟩:=ae b3
    obtain ⟨h6,h7,h8⟩:=al g5
    obtain ⟨x02,g9,b3⟩:=ae b3
    obtain ⟨h10,h11,h12⟩:=al g9
    obtain ⟨r03,g13,b3⟩:=ae b3
    simp(config:=cS)only[go_sem,eqT h4,h6,h7,h8,h10,h11,h12]
    refine ag (Ct g13) ?_
    obtain ⟨h14,b3⟩|⟨h14,b3⟩:=af b3
    ·cases b3
     simp(config:=cS)only[go_sem,eZt h14]
     refine aq gb3 ?_
     simp(config:=cS)only[go_sem]
    ·cases b3
     obtain rfl:=(ak gb3).symm
     try dsimp only at h
     cases h
     simp(config:=cS)only[go_sem,eZf h14]
   ·cases b3
    obtain rfl:=(ak gb3).symm
    try dsimp only at h
    cases h
    simp(config:=cS)only[go_sem,eqF h4]
 ·cases h
  simp(config:=cS)only[go_sem,eqF h1]
attribute [go_sem] Tryz.ntmps132 Tryz.results132
theorem Ej {a b:GTie}{res:Bool}(h:nR a b=some res):an Tryz.prog 132 [.agg (GTie.enc a),.agg (GTie.enc b)] [] (.lit (.bool res)) []:=by
 refine aj (ra:=[]) (md:=mdT) hT (hi:=hi00) Tryz.func132 rfl rfl (by decide +kernel) (by simp) ?_
 unfold nR at h
 obtain ⟨h1,h⟩|⟨h1,h⟩:=af h
 ·obtain ⟨h2,h⟩|⟨h2,h⟩:=af h
  ·obtain ⟨h3,h⟩|⟨h3,h⟩:=af h
   ·obtain ⟨h4,h⟩|⟨h4,h⟩:=af h
    ·obtain ⟨h5,h⟩|⟨h5,h⟩:=af h
     ·cases h
      simp(config:=cS)only[go_sem,eqT h1,eqT h2,eqT h3,eqT h4,eqT h5]
     ·cases h
      simp(config:=cS)only[go_sem,eqT h1,eqT h2,eqT h3,eqT h4,eqF h5]
    ·cases h
     simp(config:=cS)only[go_sem,eqT h1,eqT h2,eqT h3,eqF h4]
   ·cases h
    simp(config:=cS)only[go_sem,eqT h1,eqT h2,eqF h3]
  ·cases h
   simp(config:=cS)only[go_sem,eqT h1,eqF h2]
 ·cases h
  simp(config:=cS)only[go_sem,eqF h1]
def ot (a b:List GTie)(i:Int):St:=⟨[(0,.sl (ab GTie.enc a)),(1,.sl (ab GTie.enc b)),(5,.lit (.int .i64 i))],[],2⟩
attribute [go_sem] ot
@[go_sem] def hi62_6:DT:=.i2 0 (.i2 1 (.i2 2 (.i2 3 (.i2 4 (.i2 5 (.i2 6 (.i2 7 (.i2 8 (.i2 9 .nil)))))))))
def hi62:Hint where
 acts:=fun _=>[]
 draws:=fun
  | 6=>⟨hi62_6,[[],[],[0,1],[0,1,2],[],[],[4,5],[4,5,6],.range 8,.range 9],.range 10⟩
  | _=>⟨.nil,[],[]⟩
theorem Po (i:Nat):hi62.acts i=[]:=rfl
theorem Pp (i:Nat):hi62.views i=none:=rfl
attribute [go_sem] Po Pp Tryz.ntmps62 Tryz.results62
@[go_sem] theorem Qt:(hi62.draws 6).order=hi62_6:=rfl
theorem Cu {a b:List GTie}{res:Bool}(h:kh a b=some res):an Tryz.prog 62 [.sl (ab GTie.enc a),.sl (ab GTie.enc b)] [] (.lit (.bool res)) []:=by
 refine aj (ra:=[]) (md:=mdT) hT (hi:=hi62) Tryz.func62 rfl rfl (by decide +kernel) (by simp) ?_
 unfold kh at h
 obtain ⟨h1,h⟩|⟨h1,h⟩:=af h
 ·obtain ⟨q04,l2,h⟩:=ae h
  simp(config:=cS)only[go_sem,eqT h1]
  refine ap (m1:=.mk) (m2:=.mk) [.nf [0,1,5] []] (ot a b) l2 ?_ ?_
  ·simp(config:=cS)only[go_sem]
  ·intro nb3 i_1 bb3 b3 gb3
   unfold hD at b3
   try dsimp only at b3
   obtain ⟨h4,b3⟩|⟨h4,b3⟩:=af b3
   ·obtain ⟨x01,g5,b3⟩:=ae b3
    obtain ⟨h6,h7,h8⟩:=al g5
    obtain ⟨x02,g9,b3⟩:=ae b3
    obtain ⟨h10,h11,h12⟩:=al g9
    obtain ⟨r03,g13,b3⟩:=ae b3
    simp(config:=cS)only[go_sem,eqT h4,h6,h7,h8,h10,h11,h12]
    refine ag (Ej g13) ?_
    obtain ⟨h14,b3⟩|⟨h14,b3⟩:=af b3
    ·cases b3
     simp(config:=cS)only[go_sem,eZt h14]
     refine aq gb3 ?_
     simp(config:=cS)only[go_sem]
    ·cases b3
     obtain rfl:=(ak gb3).symm
     try dsimp only at h
     cases h
     simp(config:=cS)only[go_sem,eZf h14]
   ·cases b3
    obtain rfl:=(ak gb3).symm
    try dsimp only at h
    cases h
    simp(config:=cS)only[go_sem,eqF h4]
 ·cases h
  simp(config:=cS)only[go_sem,eqF h1]
attribute [go_sem] Tryz.ntmps16 Tryz.results16
theorem sS {a b:GShow}{res:Bool}(h:ii a b=some res):an Tryz.prog 16 [.agg (GShow.encS a),.agg (GShow.encS b)] [] (.lit (.bool res)) []:=by
 refine aj (ra:=[]) (md:=mdT) hT (hi:=hi00) Tryz.func16 rfl rfl (by decide +kernel) (by simp) ?_
 unfold ii at h
 obtain ⟨r01,g1,h⟩:=ae h
 simp(config:=cS)only[go_sem]
 refine ag (AF g1) ?_
 obtain ⟨h2,h⟩|⟨h2,h⟩:=af h
 ·obtain ⟨r02,g3,h⟩:=ae h
  simp(config:=cS)only[go_sem,eZt h2]
  refine ag (Cu g3) ?_
  obtain ⟨h4,h⟩|⟨h4,h⟩:=af h
  ·obtain ⟨h5,h⟩|⟨h5,h⟩:=af h
   ·cases h
    simp(config:=cS)only[go_sem,eZt h4,eqT h5]
   ·cases h
    simp(config:=cS)only[go_sem,eZt h4,eqF h5]
  ·cases h
   simp(config:=cS)only[go_sem,eZf h4]
 ·cases h
  simp(config:=cS)only[go_sem,eZf h2]
attribute [go_sem] Tryz.ntmps85 Tryz.results85
theorem AG {a b:GState}{res:Bool}(h:jz a b=some res):an Tryz.prog 85 [.agg (GState.encS a),.agg (GState.encS b)] [] (.lit (.bool res)) []:=by
 refine aj (ra:=[]) (md:=mdT) hT (hi:=hi00) Tryz.func85 rfl rfl (by decide +kernel) (by simp) ?_
 unfold jz at h
 obtain ⟨h1,h⟩|⟨h1,h⟩:=af h
 ·obtain ⟨r01,g2,h⟩:=ae h
  simp(config:=cS)only[go_sem,eqT h1]
  refine ag (ib g2) ?_
  obtain ⟨h3,h⟩|⟨h3,h⟩:=af h
  ·obtain ⟨r02,g4,h⟩:=ae h
   simp(config:=cS)only[go_sem,eZt h3]
   refine ag (ib g4) ?_
   obtain ⟨h5,h⟩|⟨h5,h⟩:=af h
   ·cases h
    simp(config:=cS)only[go_sem,eZt h5]
   ·cases h
    simp(config:=cS)only[go_sem,eZf h5]
  ·cases h
   simp(config:=cS)only[go_sem,eZf h3]
 ·cases h
  simp(config:=cS)only[go_sem,eqF h1]
attribute [go_sem] Tryz.ntmps77 Tryz.results77
theorem AH {a b:GEntry}{res:Bool}(h:jx a b=some res):an Tryz.prog 77 [.agg (GEntry.encS a),.agg (GEntry.encS b)] [] (.lit (.bool res)) []:=by
 refine aj (ra:=[]) (md:=mdT) hT (hi:=hi00) Tryz.func77 rfl rfl (by decide +kernel) (by simp) ?_
 unfold jx at h
 obtain ⟨h1,h⟩|⟨h1,h⟩:=af h
 ·obtain ⟨r01,g2,h⟩:=ae h
  simp(config:=cS)only[go_sem,eqT h1]
  refine ag (ib g2) ?_
  obtain ⟨h3,h⟩|⟨h3,h⟩:=af h
  ·obtain ⟨r02,g4,h⟩:=ae h
   simp(config:=cS)only[go_sem,eZt h3]
   refine ag (ib g4) ?_
   obtain ⟨h5,h⟩|⟨h5,h⟩:=af h
   ·obtain ⟨r03,g6,h⟩:=ae h
    simp(config:=cS)only[go_sem,eZt h5]
    refine ag (ib g6) ?_
    obtain ⟨h7,h⟩|⟨h7,h⟩:=af h
    ·cases h
     simp(config:=cS)only[go_sem,eZt h7]
    ·cases h
     simp(config:=cS)only[go_sem,eZf h7]
   ·cases h
    simp(config:=cS)only[go_sem,eZf h5]
  ·cases h
   simp(config:=cS)only[go_sem,eZf h3]
 ·cases h
  simp(config:=cS)only[go_sem,eqF h1]
def mL (a b:List GEntry)(i:Int):St:=⟨[(0,.sl (ab GEntry.encS a)),(1,.sl (ab GEntry.encS b)),(5,.lit (.int .i64 i))],[],2⟩
attribute [go_sem] mL
@[go_sem] def hi26_6:DT:=.i2 0 (.i2 1 (.i2 2 (.i2 3 (.i2 4 (.i2 5 (.i2 6 (.i2 7 (.i2 8 (.i2 9 .nil)))))))))
def hi26:Hint where
 acts:=fun _=>[]
 draws:=fun
  | 6=>⟨hi26_6,[[],[],[0,1],[0,1,2],[],[],[4,5],[4,5,6],.range 8,.range 9],.range 10⟩
  | _=>⟨.nil,[],[]⟩
theorem Pq (i:Nat):hi26.acts i=[]:=rfl
theorem Pr (i:Nat):hi26.views i=none:=rfl
attribute [go_sem] Pq Pr Tryz.ntmps26 Tryz.results26
@[go_sem] theorem Qu:(hi26.draws 6).order=hi26_6:=rfl
theorem zh {a b:List GEntry}{res:Bool}(h:iC a b=some res):an Tryz.prog 26 [.sl (ab GEntry.encS a),.sl (ab GEntry.encS b)] [] (.lit (.bool res)) []:=by
 refine aj (ra:=[]) (md:=mdT) hT (hi:=hi26) Tryz.func26 rfl rfl (by decide +kernel) (by simp) ?_
 unfold iC at h
 obtain ⟨h1,h⟩|⟨h1,h⟩:=af h
 ·obtain ⟨q04,l2,h⟩:=ae h
  simp(config:=cS)only[go_sem,eqT h1]
  refine ap (m1:=.mk) (m2:=.mk) [.nf [0,1,5] []] (mL a b) l2 ?_ ?_
  ·simp(config:=cS)only[go_sem]
  ·intro nb3 i_1 bb3 b3 gb3
   unfold fx at b3
   try dsimp only at b3
   obtain ⟨h4,b3⟩|⟨h4,b3⟩:=af b3
   ·obtain ⟨x01,g5,b3⟩:=ae b3
    obtain ⟨h6,h7,h8⟩:=al g5
    obtain ⟨x02,g9,b3⟩:=ae b3
    obtain ⟨h10,h11,h12⟩:=al g9
    obtain ⟨r03,g13,b3⟩:=ae b3
    simp(config:=cS)only[go_sem,eqT h4,h6,h7,h8,h10,h11,h12]
    refine ag (AH g13) ?_
    obtain ⟨h14,b3⟩|⟨h14,b3⟩:=af b3
    ·cases b3
     simp(config:=cS)only[go_sem,eZt h14]
     refine aq gb3 ?_
     simp(config:=cS)only[go_sem]
    ·cases b3
     obtain rfl:=(ak gb3).symm
     try dsimp only at h
     cases h
     simp(config:=cS)only[go_sem,eZf h14]
   ·cases b3
    obtain rfl:=(ak gb3).symm
    try dsimp only at h
    cases h
    simp(config:=cS)only[go_sem,eqF h4]
 ·cases h
  simp(config:=cS)only[go_sem,eqF h1]
attribute [go_sem] Tryz.ntmps33 Tryz.results33
theorem pD {a b:GDesk}{res:Bool}(h:fU a b=some res):an Tryz.prog 33 [.agg (GDesk.encS a),.agg (GDesk.encS b)] [] (.lit (.bool res)) []:=by
 refine aj (ra:=[]) (md:=mdT) hT (hi:=hi00) Tryz.func33 rfl rfl (by decide +kernel) (by simp) ?_
 unfold fU at h
 obtain ⟨r01,g1,h⟩:=ae h
 simp(config:=cS)only[go_sem]
 refine ag (sS g1) ?_
 obtain ⟨h2,h⟩|⟨h2,h⟩:=af h
 ·obtain ⟨r02,g3,h⟩:=ae h
  simp(config:=cS)only[go_sem,eZt h2]
  refine ag (AG g3) ?_
  obtain ⟨h4,h⟩|⟨h4,h⟩:=af h
  ·obtain ⟨h5,h⟩|⟨h5,h⟩:=af h
   ·obtain ⟨r03,g6,h⟩:=ae h
    simp(config:=cS)only[go_sem,eZt h4,eqT h5]
    refine ag (zh g6) ?_
    obtain ⟨h7,h⟩|⟨h7,h⟩:=af h
    ·cases h
     simp(config:=cS)only[go_sem,eZt h7]
    ·cases h
     simp(config:=cS)only[go_sem,eZf h7]
   ·cases h
    simp(config:=cS)only[go_sem,eZt h4,eqF h5]
  ·cases h
   simp(config:=cS)only[go_sem,eZf h4]
 ·cases h
  simp(config:=cS)only[go_sem,eZf h2]
def mM  : (Int × ByteArray)→St
 | (k,a)=>⟨[(0,.lit (.int .i64 k)),(3,.lit (.string a))],[],2⟩
attribute [go_sem] mM
attribute [go_sem] Tryz.ntmps81 Tryz.results81
theorem qS {k:Int}{res:ByteArray}(h:cR k=some res):an Tryz.prog 81 [.lit (.int .i64 k)] [] (.lit (.string res)) []:=by
 refine aj (ra:=[]) (md:=mdT) hT (hi:=hi00) Tryz.func81 rfl rfl (by decide +kernel) (by simp) ?_
 unfold cR at h
 obtain ⟨h1,h⟩|⟨h1,h⟩:=af h
 ·cases h
  simp(config:=cS)only[go_sem,eqT h1]
 ·obtain ⟨q01,l2,h⟩:=ae h
  simp(config:=cS)only[go_sem,eqF h1]
  refine ap (m1:=.mk) (m2:=.mk) [.nf [0,3] []] (mM) l2 ?_ ?_
  ·simp(config:=cS)only[go_sem]
  ·intro nb3 sb3 bb3 b3 gb3
   obtain ⟨k_1,out_1⟩:=sb3
   unfold dB at b3
   try dsimp only at b3
   obtain ⟨h4,b3⟩|⟨h4,b3⟩:=af b3
   ·obtain ⟨h5,b3⟩:=ai b3
    cases b3
    simp(config:=cS)only[go_sem,eqT h4,eqT h5]
    refine aq gb3 ?_
    simp(config:=cS)only[go_sem]
   ·cases b3
    obtain rfl:=(ak gb3).symm
    try dsimp only at h
    obtain ⟨h7,h⟩:=ai h
    cases h
    simp(config:=cS)only[go_sem,eqF h4,eqT h7]
def mN (b:Bool)  : (Int × Int × (List Int))→St
 | (k,i,a)=>⟨[(0,.ref 10000 0 0 a.length),(1,.lit (.int .i64 k)),(5,.lit (.int .i64 i))],[(10000,0,.row b (ab eI a))],2⟩
attribute [go_sem] mN
attribute [go_sem] Tryz.ntmps80 Tryz.results80
theorem fI {a:List Int}{k:Int}{zb0:Bool}{res:Int × (List Int)}(h:bL a k=some res):an Tryz.prog 80 [.ref 10000 0 0 a.length,.lit (.int .i64 k)] [(10000,0,.row zb0 (ab eI a))] (.lit (.int .i64 res.1)) [(10000,0,.row zb0 (ab eI res.2))]:=by
 refine aj (ra:=[]) (md:=mdT) hT (hi:=hi00) Tryz.func80 rfl rfl (by decide +kernel) (by simp) ?_
 unfold bL at h
 obtain ⟨q02,l1,h⟩:=ae h
 simp(config:=cS)only[go_sem]
 refine ap (m1:=.mk) (m2:=.mk) [.nf [0,1,5] [10000]] (mN zb0) l1 ?_ ?_
 ·simp(config:=cS)only[go_sem]
 ·intro nb2 sb2 bb2 b2 gb2
  obtain ⟨k_1,i_1,a_1⟩:=sb2
  unfold fy at b2
  try dsimp only at b2
  obtain ⟨h3,b2⟩|⟨h3,b2⟩:=af b2
  ·obtain ⟨x01,g4,b2⟩:=ae b2
   obtain ⟨h5,h6,h7⟩:=al g4
   cases b2
   simp(config:=cS)only[go_sem,eqT h3,h5,h6,h7]
   refine aq gb2 ?_
   simp(config:=cS)only[go_sem]
  ·cases b2
   obtain rfl:=(ak gb2).symm
   try dsimp only at h
   cases h
   simp(config:=cS)only[go_sem,eqF h3]
def lL (b:Bool)  : (Int × Int × (List GNode))→St
 | (k,i,a)=>⟨[(0,.ref 10000 0 0 a.length),(1,.lit (.int .i64 k)),(5,.lit (.int .i64 i))],[(10000,0,.row b (ab GNode.encO a))],2⟩
attribute [go_sem] lL
def hi78:Hint where
 acts:=fun _=>[]
 views:=fun
  | 6=>some (4,1)
  | _=>none
 draws:=fun
  | _=>⟨.nil,[],[]⟩
theorem Ps (i:Nat):hi78.acts i=[]:=rfl
@[go_sem] theorem Qv:hi78.views 0=none:=rfl
@[go_sem] theorem Qw:hi78.views 1=none:=rfl
@[go_sem] theorem Qy:hi78.views 2=none:=rfl
@[go_sem] theorem Qz:hi78.views 4=none:=rfl
@[go_sem] theorem QA:hi78.views 5=none:=rfl
@[go_sem] theorem QB:hi78.views 6=some (4,1):=rfl
@[go_sem] theorem QC:hi78.views 7=none:=rfl
@[go_sem] theorem QD:hi78.views 8=none:=rfl
@[go_sem] theorem QE:hi78.views 3=none:=rfl
@[go_sem] theorem QF:hi78.views 9=none:=rfl
attribute [go_sem] Ps Tryz.ntmps78 Tryz.results78
theorem xd {a:List GNode}{k:Int}{zb0:Bool}{res:Int × (List GNode)}(h:dj a k=some res):an Tryz.prog 78 [.ref 10000 0 0 a.length,.lit (.int .i64 k)] [(10000,0,.row zb0 (ab GNode.encO a))] (.lit (.int .i64 res.1)) [(10000,0,.row zb0 (ab GNode.encO res.2))]:=by
 refine aj (ra:=[]) (md:=mdT) hT (hi:=hi78) Tryz.func78 rfl rfl (by decide +kernel) (by simp) ?_
 unfold dj at h
 obtain ⟨q06,l1,h⟩:=ae h
 simp(config:=cS)only[go_sem]
 refine ap (m1:=.mk) (m2:=.mk) [.nf [0,1,5] [10000]] (lL zb0) l1 ?_ ?_
 ·simp(config:=cS)only[go_sem]
 ·intro nb2 sb2 bb2 b2 gb2
  obtain ⟨k_1,i_1,a_1⟩:=sb2
  unfold bE at b2
  try dsimp only at b2
  obtain ⟨h3,b2⟩|⟨h3,b2⟩:=af b2
  ·obtain ⟨r01,g4,b2⟩:=ae b2
   simp(config:=cS)only[go_sem,eqT h3]
   refine ag (qS g4) ?_
   obtain ⟨x02,g5,b2⟩:=ae b2
   obtain ⟨h6,h7,h8⟩:=al g5
   obtain ⟨x03,g9,b2⟩:=ae b2
   obtain ⟨h10,h11,h12⟩:=al g9
   obtain ⟨r04,g13,b2⟩:=ae b2
   obtain ⟨h14,b2⟩:=ai b2
   simp(config:=cS)only[go_sem,eqT h3,h6,h7,h8,h10,h11,h12]
   refine sf h14 (by simp only [go_sem]) (fI g13) ?_
   obtain ⟨x05,g15,b2⟩:=ae b2
   obtain ⟨h16,h17,h18⟩:=al g15
   cases b2
   simp(config:=cS)only[go_sem,eqT h3,h6,h7,h8,h10,h11,h12,h16,h17,h18]
   refine aq gb2 ?_
   simp(config:=cS)only[go_sem,eqT h3,h6,h7,h8,h10,h11,h12,h16,h17,h18]
  ·cases b2
   obtain rfl:=(ak gb2).symm
   try dsimp only at h
   cases h
   simp(config:=cS)only[go_sem,eqF h3]
def mO (b:Bool)  : (Int × Int × (List GTie))→St
 | (k,i,a)=>⟨[(0,.ref 10000 0 0 a.length),(1,.lit (.int .i64 k)),(5,.lit (.int .i64 i))],[(10000,0,.row b (ab GTie.enc a))],2⟩
attribute [go_sem] mO
attribute [go_sem] Tryz.ntmps79 Tryz.results79
theorem zi {a:List GTie}{k:Int}{zb0:Bool}{res:Int × (List GTie)}(h:dP a k=some res):an Tryz.prog 79 [.ref 10000 0 0 a.length,.lit (.int .i64 k)] [(10000,0,.row zb0 (ab GTie.enc a))] (.lit (.int .i64 res.1)) [(10000,0,.row zb0 (ab GTie.enc res.2))]:=by
 refine aj (ra:=[]) (md:=mdT) hT (hi:=hi00) Tryz.func79 rfl rfl (by decide +kernel) (by simp) ?_
 unfold dP at h
 obtain ⟨q06,l1,h⟩:=ae h
 simp(config:=cS)only[go_sem]
 refine ap (m1:=.mk) (m2:=.mk) [.nf [0,1,5] [10000]] (mO zb0) l1 ?_ ?_
 ·simp(config:=cS)only[go_sem]
 ·intro nb2 sb2 bb2 b2 gb2
  obtain ⟨k_1,i_1,a_1⟩:=sb2
  unfold bR at b2
  try dsimp only at b2
  obtain ⟨h3,b2⟩|⟨h3,b2⟩:=af b2
  ·obtain ⟨x01,g4,b2⟩:=ae b2
   obtain ⟨h5,h6,h7⟩:=al g4
   obtain ⟨x02,g8,b2⟩:=ae b2
   obtain ⟨h9,h10,h11⟩:=al g8
   obtain ⟨x03,g12,b2⟩:=ae b2
   obtain ⟨h13,h14,h15⟩:=al g12
   obtain ⟨x04,g16,b2⟩:=ae b2
   obtain ⟨h17,h18,h19⟩:=al g16
   obtain ⟨x05,g20,b2⟩:=ae b2
   obtain ⟨h21,h22,h23⟩:=al g20
   cases b2
   simp(config:=cS)only[go_sem,eqT h3,h5,h6,h7,h9,h10,h11,h13,h14,h15,h17,h18,h19,h21,h22,h23]
   refine aq gb2 ?_
   simp(config:=cS)only[go_sem]
  ·cases b2
   obtain rfl:=(ak gb2).symm
   try dsimp only at h
   cases h
   simp(config:=cS)only[go_sem,eqF h3]
attribute [go_sem] Tryz.ntmps27 Tryz.results27
theorem qT {a:GShow}{k:Int}{zb0 zb1:Bool}{res:Int × (List GNode) × (List GTie)}(h:cT a k=some res):an Tryz.prog 27 [.agg [.ref 10000 0 0 a.nodes.length,.ref 10001 0 0 a.ties.length,.lit (.int .i64 a.horizon)],.lit (.int .i64 k)] [(10000,0,.row zb0 (ab GNode.encO a.nodes)),(10001,0,.row zb1 (ab GTie.enc a.ties))] (.lit (.int .i64 res.1)) [(10000,0,.row zb0 (ab GNode.encO res.2.1)),(10001,0,.row zb1 (ab GTie.enc res.2.2))]:=by
 refine aj (ra:=[]) (md:=mdT) hT (hi:=hi00) Tryz.func27 rfl rfl (by decide +kernel) (by simp) ?_
 unfold cT at h
 obtain ⟨r01,g1,h⟩:=ae h
 simp(config:=cS)only[go_sem]
 refine ag (xd g1) ?_
 obtain ⟨r02,g2,h⟩:=ae h
 simp(config:=cS)only[go_sem]
 refine ag (zi g2) ?_
 cases h
 simp(config:=cS)only[go_sem]
attribute [go_sem] Tryz.ntmps86 Tryz.results86
theorem xe {a:GState}{k:Int}{zb0 zb1:Bool}{res:Int × (List Int) × (List Int)}(h:jK a k=some res):an Tryz.prog 86 [.agg [.lit (.int .i64 a.now),.ref 10000 0 0 a.times.length,.ref 10001 0 0 a.values.length],.lit (.int .i64 k)] [(10000,0,.row zb0 (ab eI a.times)),(10001,0,.row zb1 (ab eI a.values))] (.lit (.int .i64 res.1)) [(10000,0,.row zb0 (ab eI res.2.1)),(10001,0,.row zb1 (ab eI res.2.2))]:=by
 refine aj (ra:=[]) (md:=mdT) hT (hi:=hi00) Tryz.func86 rfl rfl (by decide +kernel) (by simp) ?_
 unfold jK at h
 obtain ⟨r01,g1,h⟩:=ae h
 simp(config:=cS)only[go_sem]
 refine ag (fI g1) ?_
 obtain ⟨r02,g2,h⟩:=ae h
 simp(config:=cS)only[go_sem]
 refine ag (fI g2) ?_
 cases h
 simp(config:=cS)only[go_sem]
def lq (b:Bool)  : (Int × Int × (List GEntry))→St
 | (k,i,a)=>⟨[(0,.ref 10000 0 0 a.length),(1,.lit (.int .i64 k)),(5,.lit (.int .i64 i))],[(10000,0,.row b (ab GEntry.encO a))],2⟩
attribute [go_sem] lq
def hi28:Hint where
 acts:=fun _=>[]
 views:=fun
  | 6=>some (4,1)
  | 7=>some (4,1)
  | 8=>some (4,1)
  | _=>none
 draws:=fun
  | _=>⟨.nil,[],[]⟩
theorem Pt (i:Nat):hi28.acts i=[]:=rfl
@[go_sem] theorem QG:hi28.views 0=none:=rfl
@[go_sem] theorem QH:hi28.views 1=none:=rfl
@[go_sem] theorem QI:hi28.views 2=none:=rfl
@[go_sem] theorem QJ:hi28.views 4=none:=rfl
@[go_sem] theorem QK:hi28.views 5=none:=rfl
@[go_sem] theorem QL:hi28.views 6=some (4,1):=rfl
@[go_sem] theorem QM:hi28.views 7=some (4,1):=rfl
@[go_sem] theorem QN:hi28.views 8=some (4,1):=rfl
@[go_sem] theorem QO:hi28.views 3=none:=rfl
@[go_sem] theorem QP:hi28.views 9=none:=rfl
attribute [go_sem] Pt Tryz.ntmps28 Tryz.results28
theorem vF {a:List GEntry}{k:Int}{zb0:Bool}{res:Int × (List GEntry)}(h:gq a k=some res):an Tryz.prog 28 [.ref 10000 0 0 a.length,.lit (.int .i64 k)] [(10000,0,.row zb0 (ab GEntry.encO a))] (.lit (.int .i64 res.1)) [(10000,0,.row zb0 (ab GEntry.encO res.2))]:=by
 refine aj (ra:=[]) (md:=mdT) hT (hi:=hi28) Tryz.func28 rfl rfl (by decide +kernel) (by simp) ?_
 unfold gq at h
 obtain ⟨q08,l1,h⟩:=ae h
 simp(config:=cS)only[go_sem]
 refine ap (m1:=.mk) (m2:=.mk) [.nf [0,1,5] [10000]] (lq zb0) l1 ?_ ?_
 ·simp(config:=cS)only[go_sem]
 ·intro nb2 sb2 bb2 b2 gb2
  obtain ⟨k_1,i_1,a_1⟩:=sb2
  unfold cE at b2
  try dsimp only at b2
  obtain ⟨h3,b2⟩|⟨h3,b2⟩:=af b2
  ·obtain ⟨x01,g4,b2⟩:=ae b2
   obtain ⟨h5,h6,h7⟩:=al g4
   obtain ⟨x02,g8,b2⟩:=ae b2
   obtain ⟨h9,h10,h11⟩:=al g8
   obtain ⟨r03,g12,b2⟩:=ae b2
   obtain ⟨h13,b2⟩:=ai b2
   simp(config:=cS)only[go_sem,eqT h3,h5,h6,h7,h9,h10,h11]
   refine sf h13 (by simp only [go_sem]) (fI g12) ?_
   obtain ⟨x04,g14,b2⟩:=ae b2
   obtain ⟨h15,h16,h17⟩:=al g14
   obtain ⟨r05,g18,b2⟩:=ae b2
   obtain ⟨h19,b2⟩:=ai b2
   simp(config:=cS)only[go_sem,eqT h3,h5,h6,h7,h9,h10,h11,h15,h16,h17]
   refine sf h19 (by simp only [go_sem]) (fI g18) ?_
   obtain ⟨x06,g20,b2⟩:=ae b2
   obtain ⟨h21,h22,h23⟩:=al g20
   obtain ⟨r07,g24,b2⟩:=ae b2
   obtain ⟨h25,b2⟩:=ai b2
   simp(config:=cS)only[go_sem,eqT h3,h5,h6,h7,h9,h10,h11,h15,h16,h17,h21,h22,h23]
   refine sf h25 (by simp only [go_sem]) (fI g24) ?_
   cases b2
   simp(config:=cS)only[go_sem,eqT h3,h5,h6,h7,h9,h10,h11,h15,h16,h17,h21,h22,h23]
   refine aq gb2 ?_
   simp(config:=cS)only[go_sem,eqT h3,h5,h6,h7,h9,h10,h11,h15,h16,h17,h21,h22,h23]
  ·cases b2
   obtain rfl:=(ak gb2).symm
   try dsimp only at h
   cases h
   simp(config:=cS)only[go_sem,eqF h3]
attribute [go_sem] Tryz.ntmps34 Tryz.results34
theorem zj {a:GDesk}{k:Int}{zb0 zb1 zb2 zb3 zb4:Bool}{res:Int × (List GNode) × (List GTie) × (List Int) × (List Int) × (List GEntry)}(h:iH a k=some res):an Tryz.prog 34 [.agg [.ref 10000 0 0 a.show_.nodes.length,.ref 10001 0 0 a.show_.ties.length,.lit (.int .i64 a.show_.horizon),.lit (.int .i64 a.state.now),.ref 10002 0 0 a.state.times.length,.ref 10003 0 0 a.state.values.length,.lit (.bool a.lazy),.ref 10004 0 0 a.log.length],.lit (.int .i64 k)] [(10000,0,.row zb0 (ab GNode.encO a.show_.nodes)),(10001,0,.row zb1 (ab GTie.enc a.show_.ties)),(10002,0,.row zb2 (ab eI a.state.times)),(10003,0,.row zb3 (ab eI a.state.values)),(10004,0,.row zb4 (ab GEntry.encO a.log))] (.lit (.int .i64 res.1)) [(10000,0,.row zb0 (ab GNode.encO res.2.1)),(10001,0,.row zb1 (ab GTie.enc res.2.2.1)),(10002,0,.row zb2 (ab eI res.2.2.2.1)),(10003,0,.row zb3 (ab eI res.2.2.2.2.1)),(10004,0,.row zb4 (ab GEntry.encO res.2.2.2.2.2))]:=by
 refine aj (ra:=[]) (md:=mdT) hT (hi:=hi00) Tryz.func34 rfl rfl (by decide +kernel) (by simp) ?_
 unfold iH at h
 obtain ⟨r01,g1,h⟩:=ae h
 simp(config:=cS)only[go_sem]
 refine ag (qT g1) ?_
 obtain ⟨r02,g2,h⟩:=ae h
 simp(config:=cS)only[go_sem]
 refine ag (xe g2) ?_
 obtain ⟨r03,g3,h⟩:=ae h
 simp(config:=cS)only[go_sem]
 refine ag (vF g3) ?_
 cases h
 simp(config:=cS)only[go_sem]
def mP (a:List Int):(Int × Int)→St
 | (k,i)=>⟨[(0,.sl (ab eI a)),(1,.lit (.int .i64 k)),(5,.lit (.int .i64 i))],[],2⟩
attribute [go_sem] mP
attribute [go_sem] Tryz.ntmps158 Tryz.results158
theorem fJ {a:List Int}{k res:Int}(h:bM a k=some res):an Tryz.prog 158 [.sl (ab eI a),.lit (.int .i64 k)] [] (.lit (.int .i64 res)) []:=by
 refine aj (ra:=[]) (md:=mdT) hT (hi:=hi00) Tryz.func158 rfl rfl (by decide +kernel) (by simp) ?_
 unfold bM at h
 obtain ⟨q02,l1,h⟩:=ae h
 simp(config:=cS)only[go_sem]
 refine ap (m1:=.mk) (m2:=.mk) [.nf [0,1,5] []] (mP a) l1 ?_ ?_
 ·simp(config:=cS)only[go_sem]
 ·intro nb2 sb2 bb2 b2 gb2
  obtain ⟨k_1,i_1⟩:=sb2
  unfold fE at b2
  try dsimp only at b2
  obtain ⟨h3,b2⟩|⟨h3,b2⟩:=af b2
  ·obtain ⟨x01,g4,b2⟩:=ae b2
   obtain ⟨h5,h6,h7⟩:=al g4
   obtain ⟨h8,b2⟩|⟨h8,b2⟩:=af b2
   ·cases b2
    simp(config:=cS)only[go_sem,eqT h3,h5,h6,h7,eqT h8]
    refine aq gb2 ?_
    simp(config:=cS)only[go_sem]
   ·cases b2
    obtain rfl:=(ak gb2).symm
    try dsimp only at h
    cases h
    simp(config:=cS)only[go_sem,eqT h3,h5,h6,h7,eqF h8]
  ·cases b2
   obtain rfl:=(ak gb2).symm
   try dsimp only at h
   cases h
   simp(config:=cS)only[go_sem,eqF h3]
def lM (a:List GNode):(Int × Int)→St
 | (k,i)=>⟨[(0,.sl (ab GNode.encS a)),(1,.lit (.int .i64 k)),(5,.lit (.int .i64 i))],[],2⟩
attribute [go_sem] lM
@[go_sem] def hi156_4:DT:=.i2 0 (.i2 1 (.i1 2 (.i1 3 (.i1 4 (.i2 5 (.i0 6 [2,3,4] (.i2 7 .nil)))))))
def Du:Hint where
 acts:=fun _=>[]
 draws:=fun
  | 4=>⟨hi156_4,[[],[],[0,1],[0,1,2],[0,1,2,3],[],[5],.range 7],.range 8⟩
  | _=>⟨.nil,[],[]⟩
theorem On (i:Nat):Du.acts i=[]:=rfl
theorem Oo (i:Nat):Du.views i=none:=rfl
attribute [go_sem] On Oo Tryz.ntmps156 Tryz.results156
@[go_sem] theorem Qk:(Du.draws 4).order=hi156_4:=rfl
theorem xf {a:List GNode}{k res:Int}(h:hM a k=some res):an Tryz.prog 156 [.sl (ab GNode.encS a),.lit (.int .i64 k)] [] (.lit (.int .i64 res)) []:=by
 refine aj (ra:=[]) (md:=mdT) hT (hi:=Du) Tryz.func156 rfl rfl (by decide +kernel) (by simp) ?_
 unfold hM at h
 obtain ⟨q04,l1,h⟩:=ae h
 simp(config:=cS)only[go_sem]
 refine ap (m1:=.mk) (m2:=.mk) [.nf [0,1,5] []] (lM a) l1 ?_ ?_
 ·simp(config:=cS)only[go_sem]
 ·intro nb2 sb2 bb2 b2 gb2
  obtain ⟨k_1,i_1⟩:=sb2
  unfold eJ at b2
  try dsimp only at b2
  obtain ⟨h3,b2⟩|⟨h3,b2⟩:=af b2
  ·obtain ⟨x01,g4,b2⟩:=ae b2
   obtain ⟨h5,h6,h7⟩:=al g4
   obtain ⟨r02,g8,b2⟩:=ae b2
   simp(config:=cS)only[go_sem,eqT h3,h5,h6,h7]
   refine ag (qS g8) ?_
   obtain ⟨h9,b2⟩|⟨h9,b2⟩:=af b2
   ·obtain ⟨r03,g10,b2⟩:=ae b2
    simp(config:=cS)only[go_sem,eqT h3,h5,h6,h7,eqT h9]
    refine ag (fJ g10) ?_
    obtain ⟨h11,b2⟩|⟨h11,b2⟩:=af b2
    ·cases b2
     obtain rfl:=(ak gb2).symm
     try dsimp only at h
     cases h
     simp(config:=cS)only[go_sem,eqT h3,h5,h6,h7,eqT h9,eqT h11]
    ·obtain ⟨h13,b2⟩|⟨h13,b2⟩:=af b2
     ·cases b2
      simp(config:=cS)only[go_sem,eqT h3,h5,h6,h7,eqT h9,eqF h11,eqT h13]
      refine aq gb2 ?_
      simp(config:=cS)only[go_sem,eqT h3,h5,h6,h7,eqT h9,eqF h11,eqT h13]
     ·cases b2
      obtain rfl:=(ak gb2).symm
      try dsimp only at h
      cases h
      simp(config:=cS)only[go_sem,eqT h3,h5,h6,h7,eqT h9,eqF h11,eqF h13]
   ·cases b2
    obtain rfl:=(ak gb2).symm
    try dsimp only at h
    cases h
    simp(config:=cS)only[go_sem,eqT h3,h5,h6,h7,eqF h9]
  ·cases b2
   obtain rfl:=(ak gb2).symm
   try dsimp only at h
   cases h
   simp(config:=cS)only[go_sem,eqF h3]
def mQ (a:List GTie):(Int × Int)→St
 | (k,i)=>⟨[(0,.sl (ab GTie.enc a)),(1,.lit (.int .i64 k)),(5,.lit (.int .i64 i))],[],2⟩
attribute [go_sem] mQ
attribute [go_sem] Tryz.ntmps157 Tryz.results157
theorem zk {a:List GTie}{k res:Int}(h:iI a k=some res):an Tryz.prog 157 [.sl (ab GTie.enc a),.lit (.int .i64 k)] [] (.lit (.int .i64 res)) []:=by
 refine aj (ra:=[]) (md:=mdT) hT (hi:=hi00) Tryz.func157 rfl rfl (by decide +kernel) (by simp) ?_
 unfold iI at h
 obtain ⟨q02,l1,h⟩:=ae h
 simp(config:=cS)only[go_sem]
 refine ap (m1:=.mk) (m2:=.mk) [.nf [0,1,5] []] (mQ a) l1 ?_ ?_
 ·simp(config:=cS)only[go_sem]
 ·intro nb2 sb2 bb2 b2 gb2
  obtain ⟨k_1,i_1⟩:=sb2
  unfold fF at b2
  try dsimp only at b2
  obtain ⟨h3,b2⟩|⟨h3,b2⟩:=af b2
  ·obtain ⟨x01,g4,b2⟩:=ae b2
   obtain ⟨h5,h6,h7⟩:=al g4
   obtain ⟨h8,b2⟩|⟨h8,b2⟩:=af b2
   ·obtain ⟨h9,b2⟩|⟨h9,b2⟩:=af b2
    ·obtain ⟨h10,b2⟩|⟨h10,b2⟩:=af b2
     ·obtain ⟨h11,b2⟩|⟨h11,b2⟩:=af b2
      ·obtain ⟨h12,b2⟩|⟨h12,b2⟩:=af b2
       ·cases b2
        simp(config:=cS)only[go_sem,eqT h3,h5,h6,h7,eqT h8,eqT h9,eqT h10,eqT h11,eqT h12]
        refine aq gb2 ?_
        simp(config:=cS)only[go_sem]
       ·cases b2
        obtain rfl:=(ak gb2).symm
        try dsimp only at h
        cases h
        simp(config:=cS)only[go_sem,eqT h3,h5,h6,h7,eqT h8,eqT h9,eqT h10,eqT h11,eqF h12]
      ·cases b2
       obtain rfl:=(ak gb2).symm
       try dsimp only at h
       cases h
       simp(config:=cS)only[go_sem,eqT h3,h5,h6,h7,eqT h8,eqT h9,eqT h10,eqF h11]
     ·cases b2
      obtain rfl:=(ak gb2).symm
      try dsimp only at h
      cases h
      simp(config:=cS)only[go_sem,eqT h3,h5,h6,h7,eqT h8,eqT h9,eqF h10]
    ·cases b2
     obtain rfl:=(ak gb2).symm
     try dsimp only at h
     cases h
     simp(config:=cS)only[go_sem,eqT h3,h5,h6,h7,eqT h8,eqF h9]
   ·cases b2
    obtain rfl:=(ak gb2).symm
    try dsimp only at h
    cases h
    simp(config:=cS)only[go_sem,eqT h3,h5,h6,h7,eqF h8]
  ·cases b2
   obtain rfl:=(ak gb2).symm
   try dsimp only at h
   cases h
   simp(config:=cS)only[go_sem,eqF h3]
attribute [go_sem] Tryz.ntmps87 Tryz.results87
theorem zl {a:GShow}{k res:Int}(h:iJ a k=some res):an Tryz.prog 87 [.agg (GShow.encS a),.lit (.int .i64 k)] [] (.lit (.int .i64 res)) []:=by
 refine aj (ra:=[]) (md:=mdT) hT (hi:=hi00) Tryz.func87 rfl rfl (by decide +kernel) (by simp) ?_
 unfold iJ at h
 obtain ⟨r01,g1,h⟩:=ae h
 simp(config:=cS)only[go_sem]
 refine ag (xf g1) ?_
 obtain ⟨h2,h⟩|⟨h2,h⟩:=af h
 ·cases h
  simp(config:=cS)only[go_sem,eqT h2]
 ·obtain ⟨r02,g3,h⟩:=ae h
  simp(config:=cS)only[go_sem,eqF h2]
  refine ag (zk g3) ?_
  obtain ⟨h4,h⟩|⟨h4,h⟩:=af h
  ·cases h
   simp(config:=cS)only[go_sem,eqT h4]
  ·cases h
   simp(config:=cS)only[go_sem,eqF h4]
attribute [go_sem] Tryz.ntmps88 Tryz.results88
theorem xg {a:GState}{k res:Int}(h:jL a k=some res):an Tryz.prog 88 [.agg (GState.encS a),.lit (.int .i64 k)] [] (.lit (.int .i64 res)) []:=by
 refine aj (ra:=[]) (md:=mdT) hT (hi:=hi00) Tryz.func88 rfl rfl (by decide +kernel) (by simp) ?_
 unfold jL at h
 obtain ⟨r01,g1,h⟩:=ae h
 simp(config:=cS)only[go_sem]
 refine ag (fJ g1) ?_
 obtain ⟨h2,h⟩|⟨h2,h⟩:=af h
 ·cases h
  simp(config:=cS)only[go_sem,eqT h2]
 ·obtain ⟨r02,g3,h⟩:=ae h
  simp(config:=cS)only[go_sem,eqF h2]
  refine ag (fJ g3) ?_
  obtain ⟨h4,h⟩|⟨h4,h⟩:=af h
  ·cases h
   simp(config:=cS)only[go_sem,eqT h4]
  ·cases h
   simp(config:=cS)only[go_sem,eqF h4]
def lr (a:List GEntry):(Int × Int)→St
 | (k,i)=>⟨[(0,.sl (ab GEntry.encS a)),(1,.lit (.int .i64 k)),(5,.lit (.int .i64 i))],[],2⟩
attribute [go_sem] lr
attribute [go_sem] Tryz.ntmps89 Tryz.results89
theorem vG {a:List GEntry}{k res:Int}(h:gv a k=some res):an Tryz.prog 89 [.sl (ab GEntry.encS a),.lit (.int .i64 k)] [] (.lit (.int .i64 res)) []:=by
 refine aj (ra:=[]) (md:=mdT) hT (hi:=hi00) Tryz.func89 rfl rfl (by decide +kernel) (by simp) ?_
 unfold gv at h
 obtain ⟨q05,l1,h⟩:=ae h
 simp(config:=cS)only[go_sem]
 refine ap (m1:=.mk) (m2:=.mk) [.nf [0,1,5] []] (lr a) l1 ?_ ?_
 ·simp(config:=cS)only[go_sem]
 ·intro nb2 sb2 bb2 b2 gb2
  obtain ⟨k_1,i_1⟩:=sb2
  unfold cF at b2
  try dsimp only at b2
  obtain ⟨h3,b2⟩|⟨h3,b2⟩:=af b2
  ·obtain ⟨x01,g4,b2⟩:=ae b2
   obtain ⟨h5,h6,h7⟩:=al g4
   obtain ⟨h8,b2⟩|⟨h8,b2⟩:=af b2
   ·obtain ⟨r02,g9,b2⟩:=ae b2
    simp(config:=cS)only[go_sem,eqT h3,h5,h6,h7,eqT h8]
    refine ag (fJ g9) ?_
    obtain ⟨h10,b2⟩|⟨h10,b2⟩:=af b2
    ·cases b2
     obtain rfl:=(ak gb2).symm
     try dsimp only at h
     cases h
     simp(config:=cS)only[go_sem,eqT h3,h5,h6,h7,eqT h8,eqT h10]
    ·obtain ⟨r03,g12,b2⟩:=ae b2
     simp(config:=cS)only[go_sem,eqT h3,h5,h6,h7,eqT h8,eqF h10]
     refine ag (fJ g12) ?_
     obtain ⟨h13,b2⟩|⟨h13,b2⟩:=af b2
     ·cases b2
      obtain rfl:=(ak gb2).symm
      try dsimp only at h
      cases h
      simp(config:=cS)only[go_sem,eqT h3,h5,h6,h7,eqT h8,eqF h10,eqT h13]
     ·obtain ⟨r04,g15,b2⟩:=ae b2
      simp(config:=cS)only[go_sem,eqT h3,h5,h6,h7,eqT h8,eqF h10,eqF h13]
      refine ag (fJ g15) ?_
      obtain ⟨h16,b2⟩|⟨h16,b2⟩:=af b2
      ·cases b2
       obtain rfl:=(ak gb2).symm
       try dsimp only at h
       cases h
       simp(config:=cS)only[go_sem,eqT h3,h5,h6,h7,eqT h8,eqF h10,eqF h13,eqT h16]
      ·cases b2
       simp(config:=cS)only[go_sem,eqT h3,h5,h6,h7,eqT h8,eqF h10,eqF h13,eqF h16]
       refine aq gb2 ?_
       simp(config:=cS)only[go_sem,eqT h3,h5,h6,h7,eqT h8,eqF h10,eqF h13,eqF h16]
   ·cases b2
    obtain rfl:=(ak gb2).symm
    try dsimp only at h
    cases h
    simp(config:=cS)only[go_sem,eqT h3,h5,h6,h7,eqF h8]
  ·cases b2
   obtain rfl:=(ak gb2).symm
   try dsimp only at h
   cases h
   simp(config:=cS)only[go_sem,eqF h3]
attribute [go_sem] Tryz.ntmps35 Tryz.results35
theorem qU {a:GDesk}{k res:Int}(h:fR a k=some res):an Tryz.prog 35 [.agg (GDesk.encS a),.lit (.int .i64 k)] [] (.lit (.int .i64 res)) []:=by
 refine aj (ra:=[]) (md:=mdT) hT (hi:=hi00) Tryz.func35 rfl rfl (by decide +kernel) (by simp) ?_
 unfold fR at h
 obtain ⟨r01,g1,h⟩:=ae h
 simp(config:=cS)only[go_sem]
 refine ag (zl g1) ?_
 obtain ⟨h2,h⟩|⟨h2,h⟩:=af h
 ·cases h
  simp(config:=cS)only[go_sem,eqT h2]
 ·obtain ⟨r02,g3,h⟩:=ae h
  simp(config:=cS)only[go_sem,eqF h2]
  refine ag (xg g3) ?_
  obtain ⟨h4,h⟩|⟨h4,h⟩:=af h
  ·cases h
   simp(config:=cS)only[go_sem,eqT h4]
  ·obtain ⟨r03,g5,h⟩:=ae h
   simp(config:=cS)only[go_sem,eqF h4]
   refine ag (vG g5) ?_
   obtain ⟨h6,h⟩|⟨h6,h⟩:=af h
   ·cases h
    simp(config:=cS)only[go_sem,eqT h6]
   ·cases h
    simp(config:=cS)only[go_sem,eqF h6]
@[go_sem] def hi6_12:DT:=.i1 0 (.i2 1 (.i0 2 [0] (.i2 3 (.i2 4 .nil))))
def hi6:Hint where
 acts:=fun _=>[]
 draws:=fun
  | 12=>⟨hi6_12,[[],[],[1],[0,1,2],[0,1,2,3]],.range 5⟩
  | _=>⟨.nil,[],[]⟩
theorem hi6a (i:Nat):hi6.acts i=[]:=rfl
theorem hi6v (i:Nat):hi6.views i=none:=rfl
attribute [go_sem] hi6a hi6v Tryz.ntmps6 Tryz.results6
@[go_sem] theorem QQ:(hi6.draws 12).order=hi6_12:=rfl
theorem rh {aS:GShow}{aText:ByteArray}{aLazy res:Bool}(h:fe aS aText aLazy=some res):an Tryz.prog 6 [.agg (GShow.encS aS),.lit (.string aText),.lit (.bool aLazy)] [] (.lit (.bool res)) []:=by
 refine aj (ra:=[]) (md:=mdT) hT (hi:=hi6) Tryz.func6 rfl rfl (by decide +kernel) (by simp) ?_
 unfold fe at h
 obtain ⟨h1,h⟩|⟨h1,h⟩:=af h
 ·cases h
  simp(config:=cS)only[go_sem,eqT h1]
 ·obtain ⟨r01,g2,h⟩:=ae h
  simp(config:=cS)only[go_sem,eqF h1]
  refine ag (Cg g2) ?_
  obtain ⟨h3,h⟩|⟨h3,h⟩:=af h
  ·cases h
   simp(config:=cS)only[go_sem,eqF h1,eqT h3]
  ·obtain ⟨r02,g4,h⟩:=ae h
   simp(config:=cS)only[go_sem,eqF h1,eqF h3]
   refine ag (lX g4) ?_
   obtain ⟨r03,g5,h⟩:=ae h
   simp(config:=cS)only[go_sem,eqF h1,eqF h3]
   refine ag (yY g5) ?_
   obtain ⟨r04,g6,h⟩:=ae h
   simp(config:=cS)only[go_sem,eqF h1,eqF h3]
   refine ag (lX g6) ?_
   obtain ⟨r05,g7,h⟩:=ae h
   simp(config:=cS)only[go_sem,eqF h1,eqF h3]
   refine ag (qR g7) ?_
   obtain ⟨r06,g8,h⟩:=ae h
   simp(config:=cS)only[go_sem,eqF h1,eqF h3]
   refine ag (pD g8) ?_
   obtain ⟨h9,h⟩|⟨h9,h⟩:=af h
   ·obtain ⟨h10,h⟩|⟨h10,h⟩:=af h
    ·obtain ⟨r07,g11,h⟩:=ae h
     simp(config:=cS)only[go_sem,eqF h1,eqF h3,eZt h9,eqT h10]
     refine ag (lX g11) ?_
     obtain ⟨r08,g12,h⟩:=ae h
     simp(config:=cS)only[go_sem,eqF h1,eqF h3,eZt h9,eqT h10]
     refine ag (sS g12) ?_
     obtain ⟨h13,h⟩|⟨h13,h⟩:=af h
     ·obtain ⟨r09,g14,h⟩:=ae h
      simp(config:=cS)only[go_sem,eqF h1,eqF h3,eZt h9,eqT h10,eZt h13]
      refine ag (qT g14) ?_
      obtain ⟨h15,h⟩|⟨h15,h⟩:=af h
      ·cases h
       simp(config:=cS)only[go_sem,eqF h1,eqF h3,eZt h9,eqT h10,eZt h13,eqT h15]
      ·obtain ⟨r10,g16,h⟩:=ae h
       simp(config:=cS)only[go_sem,eqF h1,eqF h3,eZt h9,eqT h10,eZt h13,eqF h15]
       refine ag (pD g16) ?_
       obtain ⟨h17,h⟩|⟨h17,h⟩:=af h
       ·obtain ⟨r11,g18,h⟩:=ae h
        simp(config:=cS)only[go_sem,eqF h1,eqF h3,eZt h9,eqT h10,eZt h13,eqF h15,eZt h17]
        refine ag (zj g18) ?_
        obtain ⟨h19,h⟩:=ai h
        obtain ⟨h20,h⟩:=ai h
        obtain ⟨h21,h⟩:=ai h
        obtain ⟨h22,h⟩:=ai h
        obtain ⟨h23,h⟩:=ai h
        obtain ⟨r12,g24,h⟩:=ae h
        simp(config:=cS)only[go_sem,eqF h1,eqF h3,eZt h9,eqT h10,eZt h13,eqF h15,eZt h17,eqT h19,eqT h20,eqT h21,eqT h22,eqT h23]
        refine ag (qU g24) ?_
        obtain ⟨h25,h⟩|⟨h25,h⟩:=af h
        ·cases h
         simp(config:=cS)only[go_sem,eqF h1,eqF h3,eZt h9,eqT h10,eZt h13,eqF h15,eZt h17,eqT h19,eqT h20,eqT h21,eqT h22,eqT h23,eqT h25]
        ·obtain ⟨h26,h⟩|⟨h26,h⟩:=af h
         ·obtain ⟨r13,g27,h⟩:=ae h
          simp(config:=cS)only[go_sem,eqF h1,eqF h3,eZt h9,eqT h10,eZt h13,eqF h15,eZt h17,eqT h19,eqT h20,eqT h21,eqT h22,eqT h23,eqF h25,eqT h26]
          refine ag (lX g27) ?_
          obtain ⟨r14,g28,h⟩:=ae h
          simp(config:=cS)only[go_sem,eqF h1,eqF h3,eZt h9,eqT h10,eZt h13,eqF h15,eZt h17,eqT h19,eqT h20,eqT h21,eqT h22,eqT h23,eqF h25,eqT h26]
          refine ag (qR g28) ?_
          obtain ⟨r15,g29,h⟩:=ae h
          simp(config:=cS)only[go_sem,eqF h1,eqF h3,eZt h9,eqT h10,eZt h13,eqF h15,eZt h17,eqT h19,eqT h20,eqT h21,eqT h22,eqT h23,eqF h25,eqT h26]
          refine ag (pD g29) ?_
          obtain ⟨h30,h⟩|⟨h30,h⟩:=af h
          ·obtain ⟨h31,h⟩|⟨h31,h⟩:=af h
           ·obtain ⟨r16,g32,h⟩:=ae h
            simp(config:=cS)only[go_sem,eqF h1,eqF h3,eZt h9,eqT h10,eZt h13,eqF h15,eZt h17,eqT h19,eqT h20,eqT h21,eqT h22,eqT h23,eqF h25,eqT h26,eZt h30,eqT h31]
            refine ag (qU g32) ?_
            obtain ⟨h33,h⟩|⟨h33,h⟩:=af h
            ·cases h
             simp(config:=cS)only[go_sem,eqF h1,eqF h3,eZt h9,eqT h10,eZt h13,eqF h15,eZt h17,eqT h19,eqT h20,eqT h21,eqT h22,eqT h23,eqF h25,eqT h26,eZt h30,eqT h31,eqT h33]
            ·obtain ⟨h34,h⟩|⟨h34,h⟩:=af h
             ·cases h
              simp(config:=cS)only[go_sem,eqF h1,eqF h3,eZt h9,eqT h10,eZt h13,eqF h15,eZt h17,eqT h19,eqT h20,eqT h21,eqT h22,eqT h23,eqF h25,eqT h26,eZt h30,eqT h31,eqF h33,eqT h34]
             ·cases h
              simp(config:=cS)only[go_sem,eqF h1,eqF h3,eZt h9,eqT h10,eZt h13,eqF h15,eZt h17,eqT h19,eqT h20,eqT h21,eqT h22,eqT h23,eqF h25,eqT h26,eZt h30,eqT h31,eqF h33,eqF h34]
           ·cases h
            simp(config:=cS)only[go_sem,eqF h1,eqF h3,eZt h9,eqT h10,eZt h13,eqF h15,eZt h17,eqT h19,eqT h20,eqT h21,eqT h22,eqT h23,eqF h25,eqT h26,eZt h30,eqF h31]
          ·cases h
           simp(config:=cS)only[go_sem,eqF h1,eqF h3,eZt h9,eqT h10,eZt h13,eqF h15,eZt h17,eqT h19,eqT h20,eqT h21,eqT h22,eqT h23,eqF h25,eqT h26,eZf h30]
         ·cases h
          simp(config:=cS)only[go_sem,eqF h1,eqF h3,eZt h9,eqT h10,eZt h13,eqF h15,eZt h17,eqT h19,eqT h20,eqT h21,eqT h22,eqT h23,eqF h25,eqF h26]
       ·cases h
        simp(config:=cS)only[go_sem,eqF h1,eqF h3,eZt h9,eqT h10,eZt h13,eqF h15,eZf h17]
     ·cases h
      simp(config:=cS)only[go_sem,eqF h1,eqF h3,eZt h9,eqT h10,eZf h13]
    ·cases h
     simp(config:=cS)only[go_sem,eqF h1,eqF h3,eZt h9,eqF h10]
   ·cases h
    simp(config:=cS)only[go_sem,eqF h1,eqF h3,eZf h9]
attribute [go_sem] Tryz.ntmps151 Tryz.results151
theorem qo {n:Int}{res:ByteArray}(h:jJ n=some res):an Tryz.prog 151 [.lit (.int .i64 n)] [] (.lit (.string res)) []:=by
 refine aj (ra:=[]) (md:=mdT) hT (hi:=hi00) Tryz.func151 rfl rfl (by decide +kernel) (by simp) ?_
 unfold jJ at h
 obtain ⟨r01,g1,h⟩:=ae h
 simp(config:=cS)only[go_sem]
 refine ag (Bw g1) ?_
 cases h
 simp(config:=cS)only[go_sem]
attribute [go_sem] Tryz.ntmps164 Tryz.results164
theorem wE {l:List ByteArray}{by_ res:ByteArray}(h:oO l by_=some res):an Tryz.prog 164 [.sl (ab eS l),.lit (.string by_)] [] (.lit (.string res)) []:=by
 refine aj (ra:=[]) (md:=mdT) hT (hi:=hi00) Tryz.func164 rfl rfl (by decide +kernel) (by simp) ?_
 unfold oO at h
 obtain ⟨r01,g1,h⟩:=ae h
 simp(config:=cS)only[go_sem]
 refine ag (Bx g1) ?_
 cases h
 simp(config:=cS)only[go_sem]
attribute [go_sem] Tryz.ntmps243 Tryz.results243
theorem zm {parts:List ByteArray}{by_ res:ByteArray}(h:nS parts by_=some res):an Tryz.prog 243 [.sl (ab eS parts),.lit (.string by_)] [] (.lit (.string res)) []:=by
 refine aj (ra:=[]) (md:=mdT) hT (hi:=hi00) Tryz.func243 rfl rfl (by decide +kernel) (by simp) ?_
 unfold nS at h
 obtain ⟨h1,h⟩|⟨h1,h⟩:=af h
 ·cases h
  simp(config:=cS)only[go_sem,eqT h1]
 ·obtain ⟨r01,g2,h⟩:=ae h
  simp(config:=cS)only[go_sem,eqF h1]
  refine ag (wE g2) ?_
  cases h
  simp(config:=cS)only[go_sem]
def mR (b:List Int)(c:Int):(Int × (List ByteArray))→St
 | (d,a)=>⟨[(3,.ref 255 1 0 a.length),(6,.sl (ab eI b)),(7,.lit (.int .i64 c)),(8,.lit (.int .i64 d))],[(255,1,.row true (ab eS a))],2⟩
attribute [go_sem] mR
attribute [go_sem] Tryz.ntmps165 Tryz.results165
theorem nP {list:List Int}{res:ByteArray}(h:iK list=some res):an Tryz.prog 165 [.sl (ab eI list)] [] (.lit (.string res)) []:=by
 refine aj (ra:=[]) (md:=mdT) hT (hi:=hi00) Tryz.func165 rfl rfl (by decide +kernel) (by simp) ?_
 unfold iK at h
 obtain ⟨q04,l1,h⟩:=ae h
 simp(config:=cS)only[go_sem]
 refine ap (m1:=.mk) (m2:=.mk) [.home 3,.nf [3,6,7,8] [255]] (mR list ((list.length:Nat):Int)) l1 ?_ ?_
 ·simp(config:=cS)only[go_sem]
 ·intro nb2 sb2 bb2 b2 gb2
  obtain ⟨v8_1,parts_1⟩:=sb2
  unfold pm at b2
  try dsimp only at b2
  obtain ⟨h3,b2⟩|⟨h3,b2⟩:=af b2
  ·obtain ⟨x01,g4,b2⟩:=ae b2
   obtain ⟨h5,h6,h7⟩:=al g4
   obtain ⟨r02,g8,b2⟩:=ae b2
   simp(config:=cS)only[go_sem,eqT h3,h5,h6,h7]
   refine ag (qo g8) ?_
   obtain ⟨h9,b2⟩:=ai b2
   obtain ⟨h10,b2⟩:=ai b2
   cases b2
   simp(config:=cS)only[go_sem,eqT h9,eqT h10]
   refine aq gb2 ?_
   simp(config:=cS)only[go_sem]
  ·cases b2
   obtain rfl:=(ak gb2).symm
   try dsimp only at h
   obtain ⟨r03,g12,h⟩:=ae h
   simp(config:=cS)only[go_sem,eqF h3]
   refine ag (zm g12) ?_
   cases h
   simp(config:=cS)only[go_sem]
@[go_sem] def hi96_1:DT:=.i2 0 (.i2 1 (.i1 3 (.i1 4 (.i1 6 (.i1 7 (.i1 9 (.i1 10 (.i0 2 [3,4,6,7,9,10] (.i0 5 [6,7,9,10] (.i0 8 [9,10] (.i2 11 (.i2 12 (.i2 13 (.i2 14 .nil))))))))))))))
def hi96:Hint where
 acts:=fun _=>[]
 draws:=fun
  | 1=>⟨hi96_1,[[],[0],[0,1],[],[3],.range 5,[],[6],.range 8,[],[9],.range 11,.range 12,.range 13,.range 14],.range 15⟩
  | _=>⟨.nil,[],[]⟩
theorem Pu (i:Nat):hi96.acts i=[]:=rfl
theorem Pv (i:Nat):hi96.views i=none:=rfl
attribute [go_sem] Pu Pv Tryz.ntmps96 Tryz.results96
@[go_sem] theorem QR:(hi96.draws 1).order=hi96_1:=rfl
theorem II {e:GEntry}{res:ByteArray}(h:pn e=some res):an Tryz.prog 96 [.agg (GEntry.encS e)] [] (.lit (.string res)) []:=by
 refine aj (ra:=[]) (md:=mdT) hT (hi:=hi96) Tryz.func96 rfl rfl (by decide +kernel) (by simp) ?_
 unfold pn at h
 obtain ⟨r01,g1,h⟩:=ae h
 simp(config:=cS)only[go_sem]
 refine ag (qo g1) ?_
 obtain ⟨r02,g2,h⟩:=ae h
 simp(config:=cS)only[go_sem]
 refine ag (nP g2) ?_
 obtain ⟨r03,g3,h⟩:=ae h
 simp(config:=cS)only[go_sem]
 refine ag (nP g3) ?_
 obtain ⟨r04,g4,h⟩:=ae h
 simp(config:=cS)only[go_sem]
 refine ag (nP g4) ?_
 obtain ⟨r05,g5,h⟩:=ae h
 simp(config:=cS)only[go_sem]
 refine ag (wE g5) ?_
 cases h
 simp(config:=cS)only[go_sem]
end Go.Proofs.Qa
