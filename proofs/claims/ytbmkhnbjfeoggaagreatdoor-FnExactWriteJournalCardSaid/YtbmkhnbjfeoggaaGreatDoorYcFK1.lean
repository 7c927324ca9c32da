/- Functions. -/
import Derived.Test.YtbmkhnbjfeoggaaGreatDoorYcFK0
set_option linter.all false
set_option maxRecDepth 100000
set_option maxHeartbeats 4000000
namespace Go.Proofs.Qc
open Go
attribute [go_sem] Tryz.ntmps225 Tryz.results225
theorem rP {n:Int}{res:Bool}(h:gI n=some res):am Tryz.prog 225 [.lit (.int .i64 n)] [] (.lit (.bool res)) []:=by
 refine ai (ra:=[]) (md:=mdT) hT (hi:=hi00) Tryz.func225 rfl rfl (by decide +kernel) (by simp) ?_
 unfold gI at h
 obtain ⟨h1,h⟩|⟨h1,h⟩:=af h
 ·cases h
  simp(config:=cS)only[go_sem,eqT h1]
 ·cases h
  simp(config:=cS)only[go_sem,eqF h1]
def jZ (c d:List Int)(a b:Int):St:=⟨[(0,.sl (ab eI c)),(1,.sl (ab eI d)),(12,.lit (.int .i64 a)),(13,.lit (.int .i64 b))],[],2⟩
attribute [go_sem] jZ
@[go_sem] def hi113_6:DT:=.i2 0 (.i2 1 (.i2 2 (.i2 3 (.i2 4 (.i2 5 (.i2 6 (.i2 7 (.i2 8 .nil))))))))
def By:Hint where
 acts:=fun _=>[]
 draws:=fun
  | 6=>⟨hi113_6,[[],[],[0,1],[0,1,2],[],[],[4,5],[4,5,6],.range 8],.range 9⟩
  | _=>⟨.nil,[],[]⟩
theorem LI (i:Nat):By.acts i=[]:=rfl
theorem LJ (i:Nat):By.views i=none:=rfl
attribute [go_sem] LI LJ Tryz.ntmps113 Tryz.results113
@[go_sem] theorem NR:(By.draws 6).order=hi113_6:=rfl
theorem eL {v0 v1:List Int}{res:Bool}(h:br v0 v1=some res):am Tryz.prog 113 [.sl (ab eI v0),.sl (ab eI v1)] [] (.lit (.bool res)) []:=by
 refine ai (ra:=[]) (md:=mdT) hT (hi:=By) Tryz.func113 rfl rfl (by decide +kernel) (by simp) ?_
 unfold br at h
 obtain ⟨h1,h⟩|⟨h1,h⟩:=af h
 ·obtain ⟨q03,l2,h⟩:=ae h
  simp(config:=cS)only[go_sem,eqT h1]
  refine aw (m1:=.mk) (m2:=.mk) [.nf [0,1,12,13] []] (jZ v0 v1 ((v0.length:Nat):Int)) l2 ?_ ?_
  ·simp(config:=cS)only[go_sem]
  ·intro nb3 v13_1 bb3 b3 gb3
   unfold cg at b3
   try dsimp only at b3
   obtain ⟨h4,b3⟩|⟨h4,b3⟩:=af b3
   ·obtain ⟨x01,g5,b3⟩:=ae b3
    obtain ⟨h6,h7,h8⟩:=ak g5
    obtain ⟨x02,g9,b3⟩:=ae b3
    obtain ⟨h10,h11,h12⟩:=ak g9
    obtain ⟨h13,b3⟩|⟨h13,b3⟩:=af b3
    ·cases b3
     simp(config:=cS)only[go_sem,eqT h4,h6,h7,h8,h10,h11,h12,eqT h13]
     refine au gb3 ?_
     simp(config:=cS)only[go_sem]
    ·cases b3
     obtain rfl:=(aj gb3).symm
     try dsimp only at h
     cases h
     simp(config:=cS)only[go_sem,eqT h4,h6,h7,h8,h10,h11,h12,eqF h13]
   ·cases b3
    obtain rfl:=(aj gb3).symm
    try dsimp only at h
    cases h
    simp(config:=cS)only[go_sem,eqF h4]
 ·cases h
  simp(config:=cS)only[go_sem,eqF h1]
def iv (c:List GTie)(a:Nat)(b:List AV)(d e:Int):St:=⟨[(0,.sl (ab GTie.enc c)),(1,.fn a b),(7,.lit (.int .i64 d)),(8,.lit (.int .i64 e))],[],2⟩
attribute [go_sem] iv
attribute [go_sem] Tryz.ntmps275 Tryz.results275
theorem kR {v0:List GTie}{v1:GTie→Option Bool}{f_v1:Nat}{k_v1:List AV}(hp_v1:∀ y0 r,v1 y0=some r→am Tryz.prog f_v1 ([.agg (GTie.enc y0)]++k_v1) [] (.lit (.bool r)) [])(hc_v1:KC k_v1)(hm_v1:∀ a,mdT f_v1 a=⟨[],false⟩)(hk_v1:spf f_v1=false){res:Int}(h:bV v0 v1=some res):am Tryz.prog 275 [.sl (ab GTie.enc v0),.fn f_v1 k_v1] [] (.lit (.int .i64 res)) []:=by
 refine ai (ra:=[]) (md:=mdT) hT (hi:=hi00) Tryz.func275 rfl rfl (by decide +kernel) (by simp) ?_
 unfold bV at h
 obtain ⟨q03,l1,h⟩:=ae h
 simp(config:=cS)only[go_sem,hc_v1.1,hc_v1.2,hm_v1,hk_v1]
 refine aw (m1:=.mk) (m2:=.mk) [.nf [0,1,7,8] []] (iv v0 f_v1 k_v1 ((v0.length:Nat):Int)) l1 ?_ ?_
 ·simp(config:=cS)only[go_sem,hc_v1.1,hc_v1.2,hm_v1,hk_v1]
 ·intro nb2 v8_1 bb2 b2 gb2
  unfold bv at b2
  try dsimp only at b2
  obtain ⟨h3,b2⟩|⟨h3,b2⟩:=af b2
  ·obtain ⟨x01,g4,b2⟩:=ae b2
   obtain ⟨h5,h6,h7⟩:=ak g4
   obtain ⟨r02,g8,b2⟩:=ae b2
   simp(config:=cS)only[go_sem,hc_v1.1,hc_v1.2,hm_v1,hk_v1,eqT h3,h5,h6,h7]
   refine ag (hp_v1 _ _ g8) ?_
   obtain ⟨h9,b2⟩|⟨h9,b2⟩:=af b2
   ·cases b2
    obtain rfl:=(aj gb2).symm
    try dsimp only at h
    cases h
    simp(config:=cS)only[go_sem,hc_v1.1,hc_v1.2,hm_v1,hk_v1,eqT h3,h5,h6,h7,eZt h9]
   ·cases b2
    simp(config:=cS)only[go_sem,hc_v1.1,hc_v1.2,hm_v1,hk_v1,eqT h3,h5,h6,h7,eZf h9]
    refine au gb2 ?_
    simp(config:=cS)only[go_sem,hc_v1.1,hc_v1.2,hm_v1,hk_v1,eqT h3,h5,h6,h7,eZf h9]
  ·cases b2
   obtain rfl:=(aj gb2).symm
   try dsimp only at h
   cases h
   simp(config:=cS)only[go_sem,hc_v1.1,hc_v1.2,hm_v1,hk_v1,eqF h3]
attribute [go_sem] Tryz.ntmps226 Tryz.results226
theorem oR {v0:List GTie}{v1:GTie→Option Bool}{f_v1:Nat}{k_v1:List AV}(hp_v1:∀ y0 r,v1 y0=some r→am Tryz.prog f_v1 ([.agg (GTie.enc y0)]++k_v1) [] (.lit (.bool r)) [])(hc_v1:KC k_v1)(hm_v1:∀ a,mdT f_v1 a=⟨[],false⟩)(hk_v1:spf f_v1=false){res:Bool}(h:bw v0 v1=some res):am Tryz.prog 226 [.sl (ab GTie.enc v0),.fn f_v1 k_v1] [] (.lit (.bool res)) []:=by
 refine ai (ra:=[]) (md:=mdT) hT (hi:=hi00) Tryz.func226 rfl rfl (by decide +kernel) (by simp) ?_
 unfold bw at h
 obtain ⟨r01,g1,h⟩:=ae h
 simp(config:=cS)only[go_sem,hc_v1.1,hc_v1.2,hm_v1,hk_v1]
 refine ag (kR hp_v1 hc_v1 hm_v1 hk_v1 g1) ?_
 cases h
 simp(config:=cS)only[go_sem]
attribute [go_sem] Tryz.ntmps227 Tryz.results227
theorem uh {u t:GTie}{res:Bool}(h:fq u t=some res):am Tryz.prog 227 [.agg (GTie.enc u),.loc [.lit (.int .i64 t.from_),.lit (.int .i64 t.to),.lit (.int .i64 t.low),.lit (.int .i64 t.high),.lit (.bool t.free)]] [] (.lit (.bool res)) []:=by
 refine ai (ra:=[]) (md:=mdT) hT (hi:=hi00) Tryz.func227 rfl rfl (by decide +kernel) (by simp) ?_
 unfold fq at h
 obtain ⟨h1,h⟩|⟨h1,h⟩:=af h
 ·cases h
  simp(config:=cS)only[go_sem,eZt h1]
 ·cases h
  simp(config:=cS)only[go_sem,eZf h1]
def mA (a:List GTie)(d:Int)(b:List GNode)(c e:Int):St:=⟨[(1,.ptr 64 1 0 0),(6,.sl (ab GTie.enc a)),(7,.lit (.int .i64 d)),(8,.lit (.int .i64 e))],[(64,1,.var [.sl (ab GNode.encS b),.sl (ab GTie.enc a),.lit (.int .i64 c)])],2⟩
attribute [go_sem] mA
@[go_sem] def hi140_7:DT:=.i2 0 (.i2 1 (.i2 2 (.i2 3 (.i2 4 (.i2 5 (.i2 6 (.i2 7 (.i2 8 (.i2 9 (.i2 10 (.i2 11 (.i2 12 (.i2 13 (.i2 14 (.i2 15 (.i2 16 (.i2 17 (.i2 18 (.i2 19 (.i2 20 (.i2 21 (.i2 22 (.i2 23 (.i2 24 (.i2 25 (.i2 26 (.i2 27 (.i2 28 (.i2 29 (.i2 30 (.i2 31 (.i2 32 (.i2 33 (.i2 34 (.i2 35 .nil)))))))))))))))))))))))))))))))))))
def Bz:Hint where
 acts:=fun _=>[]
 draws:=fun
  | 7=>⟨hi140_7,[[],[0],[0,1],[0,1,2],[0,1,2,3],.range 5,.range 6,.range 7,.range 8,.range 9,.range 10,.range 9,[0,1,2,3,4,5,6,7,8,11],.range 13,.range 14,.range 15,.range 16,.range 17,.range 18,.range 19,.range 20,.range 19,[0,1,2,3,4,5,6,7,8,9,10,11,12,13,14,15,16,17,18,21],.range 23,.range 24,.range 25,.range 19,[0,1,2,3,4,5,6,7,8,9,10,11,12,13,14,15,16,17,18,26],.range 19,[0,1,2,3,4,5,6,7,8,9,10,11,12,13,14,15,16,17,18,28],[0,1,2,3,4,5,6,7,8,9,10,11,12,13,14,15,16,17,18,26,27,28,29],[0,1,2,3,4,5,6,7,8,9,10,11,12,13,14,15,16,17,18,26,27,28,29,30],[0,1,2,3,4,5,6,7,8,9,10,11,12,13,14,15,16,17,18,26,27,28,29,30,31],.range 33,.range 34,.range 35],.range 36⟩
  | _=>⟨.nil,[],[]⟩
theorem LK (i:Nat):Bz.acts i=[]:=rfl
theorem LL (i:Nat):Bz.views i=none:=rfl
attribute [go_sem] LK LL Tryz.ntmps140 Tryz.results140
@[go_sem] theorem NS:(Bz.draws 7).order=hi140_7:=rfl
theorem yS {s:GShow}{res:Bool}(h:iD s=some res):am Tryz.prog 140 [.agg (GShow.encS s)] [] (.lit (.bool res)) []:=by
 refine ai (ra:=[]) (md:=mdT) hT (hi:=Bz) Tryz.func140 rfl rfl (by decide +kernel) (by simp) ?_
 unfold iD at h
 obtain ⟨q10,l1,h⟩:=ae h
 simp(config:=cS)only[go_sem]
 refine aw (m1:=.mk) (m2:=.mk) [.nf [1,6,7,8] [64]] (mA s.ties ((s.ties.length:Nat):Int) s.nodes s.horizon) l1 ?_ ?_
 ·simp(config:=cS)only[go_sem]
 ·intro nb2 v8_1 bb2 b2 gb2
  unfold dF at b2
  try dsimp only at b2
  obtain ⟨h3,b2⟩|⟨h3,b2⟩:=af b2
  ·obtain ⟨x01,g4,b2⟩:=ae b2
   obtain ⟨h5,h6,h7⟩:=ak g4
   obtain ⟨r02,g8,b2⟩:=ae b2
   simp(config:=cS)only[go_sem,eqT h3,h5,h6,h7]
   refine ag (rO g8) ?_
   obtain ⟨h9,b2⟩|⟨h9,b2⟩:=af b2
   ·obtain ⟨r03,g10,b2⟩:=ae b2
    simp(config:=cS)only[go_sem,eqT h3,h5,h6,h7,eZt h9]
    refine ag (rO g10) ?_
    obtain ⟨h11,b2⟩|⟨h11,b2⟩:=af b2
    ·obtain ⟨h12,b2⟩|⟨h12,b2⟩:=af b2
     ·cases b2
      obtain rfl:=(aj gb2).symm
      try dsimp only at h
      cases h
      simp(config:=cS)only[go_sem,eqT h3,h5,h6,h7,eZt h9,eZt h11,eqT h12]
     ·obtain ⟨r04,g14,b2⟩:=ae b2
      simp(config:=cS)only[go_sem,eqT h3,h5,h6,h7,eZt h9,eZt h11,eqF h12]
      refine ag (rP g14) ?_
      obtain ⟨h15,b2⟩|⟨h15,b2⟩:=af b2
      ·obtain ⟨r05,g16,b2⟩:=ae b2
       simp(config:=cS)only[go_sem,eqT h3,h5,h6,h7,eZt h9,eZt h11,eqF h12,eZt h15]
       refine ag (rP g16) ?_
       obtain ⟨h17,b2⟩|⟨h17,b2⟩:=af b2
       ·obtain ⟨h18,b2⟩|⟨h18,b2⟩:=af b2
        ·cases b2
         obtain rfl:=(aj gb2).symm
         try dsimp only at h
         cases h
         simp(config:=cS)only[go_sem,eqT h3,h5,h6,h7,eZt h9,eZt h11,eqF h12,eZt h15,eZt h17,eqT h18]
        ·obtain ⟨h20,b2⟩|⟨h20,b2⟩:=af b2
         ·obtain ⟨h21,b2⟩|⟨h21,b2⟩:=af b2
          ·cases b2
           obtain rfl:=(aj gb2).symm
           try dsimp only at h
           cases h
           simp(config:=cS)only[go_sem,eqT h3,h5,h6,h7,eZt h9,eZt h11,eqF h12,eZt h15,eZt h17,eqF h18,eZt h20,eqT h21]
          ·obtain ⟨h23,b2⟩|⟨h23,b2⟩:=af b2
           ·cases b2
            obtain rfl:=(aj gb2).symm
            try dsimp only at h
            cases h
            simp(config:=cS)only[go_sem,eqT h3,h5,h6,h7,eZt h9,eZt h11,eqF h12,eZt h15,eZt h17,eqF h18,eZt h20,eqF h21,eqT h23]
           ·obtain ⟨x06,g25,b2⟩:=ae b2
            obtain ⟨h26,h27,h28⟩:=ak g25
            obtain ⟨h29,b2⟩|⟨h29,b2⟩:=af b2
            ·obtain ⟨x07,g30,b2⟩:=ae b2
             obtain ⟨h31,h32,h33⟩:=ak g30
             obtain ⟨r08,g34,b2⟩:=ae b2
             simp(config:=cS)only[go_sem,eqT h3,h5,h6,h7,eZt h9,eZt h11,eqF h12,eZt h15,eZt h17,eqF h18,eZt h20,eqF h21,eqF h23,h26,h27,h28,eqT h29,h31,h32,h33]
             refine ag (eL g34) ?_
             obtain ⟨h35,b2⟩|⟨h35,b2⟩:=af b2
             ·obtain ⟨h36,b2⟩:=al b2
              obtain ⟨h37,b2⟩:=al b2
              obtain ⟨r09,g38,b2⟩:=ae b2
              simp(config:=cS)only[go_sem,eqT h3,h5,h6,h7,eZt h9,eZt h11,eqF h12,eZt h15,eZt h17,eqF h18,eZt h20,eqF h21,eqF h23,h26,h27,h28,eqT h29,h31,h32,h33,eZt h35,eqT h36,eqT h37]
              refine ag (oR (by exact fun _ _ hr=>uh hr) (by refine ⟨fun _=>?_,fun _=>?_⟩ <;> simp only [go_sem]) (fun _=>rfl) rfl g38) ?_
              obtain ⟨h39,b2⟩|⟨h39,b2⟩:=af b2
              ·cases b2
               obtain rfl:=(aj gb2).symm
               try dsimp only at h
               cases h
               simp(config:=cS)only[go_sem,eqT h3,h5,h6,h7,eZt h9,eZt h11,eqF h12,eZt h15,eZt h17,eqF h18,eZt h20,eqF h21,eqF h23,h26,h27,h28,eqT h29,h31,h32,h33,eZt h35,eqT h36,eqT h37,eZt h39]
              ·cases b2
               simp(config:=cS)only[go_sem,eqT h3,h5,h6,h7,eZt h9,eZt h11,eqF h12,eZt h15,eZt h17,eqF h18,eZt h20,eqF h21,eqF h23,h26,h27,h28,eqT h29,h31,h32,h33,eZt h35,eqT h36,eqT h37,eZf h39]
               refine au gb2 ?_
               simp(config:=cS)only[go_sem,eqT h3,h5,h6,h7,eZt h9,eZt h11,eqF h12,eZt h15,eZt h17,eqF h18,eZt h20,eqF h21,eqF h23,h26,h27,h28,eqT h29,h31,h32,h33,eZt h35,eqT h36,eqT h37,eZf h39]
             ·cases b2
              obtain rfl:=(aj gb2).symm
              try dsimp only at h
              cases h
              simp(config:=cS)only[go_sem,eqT h3,h5,h6,h7,eZt h9,eZt h11,eqF h12,eZt h15,eZt h17,eqF h18,eZt h20,eqF h21,eqF h23,h26,h27,h28,eqT h29,h31,h32,h33,eZf h35]
            ·cases b2
             obtain rfl:=(aj gb2).symm
             try dsimp only at h
             cases h
             simp(config:=cS)only[go_sem,eqT h3,h5,h6,h7,eZt h9,eZt h11,eqF h12,eZt h15,eZt h17,eqF h18,eZt h20,eqF h21,eqF h23,h26,h27,h28,eqF h29]
         ·cases b2
          simp(config:=cS)only[go_sem,eqT h3,h5,h6,h7,eZt h9,eZt h11,eqF h12,eZt h15,eZt h17,eqF h18,eZf h20]
          refine au gb2 ?_
          simp(config:=cS)only[go_sem,eqT h3,h5,h6,h7,eZt h9,eZt h11,eqF h12,eZt h15,eZt h17,eqF h18,eZf h20]
       ·cases b2
        obtain rfl:=(aj gb2).symm
        try dsimp only at h
        cases h
        simp(config:=cS)only[go_sem,eqT h3,h5,h6,h7,eZt h9,eZt h11,eqF h12,eZt h15,eZf h17]
      ·cases b2
       obtain rfl:=(aj gb2).symm
       try dsimp only at h
       cases h
       simp(config:=cS)only[go_sem,eqT h3,h5,h6,h7,eZt h9,eZt h11,eqF h12,eZf h15]
    ·cases b2
     obtain rfl:=(aj gb2).symm
     try dsimp only at h
     cases h
     simp(config:=cS)only[go_sem,eqT h3,h5,h6,h7,eZt h9,eZf h11]
   ·cases b2
    obtain rfl:=(aj gb2).symm
    try dsimp only at h
    cases h
    simp(config:=cS)only[go_sem,eqT h3,h5,h6,h7,eZf h9]
  ·cases b2
   obtain rfl:=(aj gb2).symm
   try dsimp only at h
   cases h
   simp(config:=cS)only[go_sem,eqF h3]
def iw (c:List Int)(a:Nat)(b:List AV)(d e:Int):St:=⟨[(0,.sl (ab eI c)),(1,.fn a b),(7,.lit (.int .i64 d)),(8,.lit (.int .i64 e))],[],2⟩
attribute [go_sem] iw
attribute [go_sem] Tryz.ntmps228 Tryz.results228
theorem kS {v0:List Int}{v1:Int→Option Bool}{f_v1:Nat}{k_v1:List AV}(hp_v1:∀ y0 r,v1 y0=some r→am Tryz.prog f_v1 ([.lit (.int .i64 y0)]++k_v1) [] (.lit (.bool r)) [])(hc_v1:KC k_v1)(hm_v1:∀ a,mdT f_v1 a=⟨[],false⟩)(hk_v1:spf f_v1=false){res:Int}(h:bX v0 v1=some res):am Tryz.prog 228 [.sl (ab eI v0),.fn f_v1 k_v1] [] (.lit (.int .i64 res)) []:=by
 refine ai (ra:=[]) (md:=mdT) hT (hi:=hi00) Tryz.func228 rfl rfl (by decide +kernel) (by simp) ?_
 unfold bX at h
 obtain ⟨q03,l1,h⟩:=ae h
 simp(config:=cS)only[go_sem,hc_v1.1,hc_v1.2,hm_v1,hk_v1]
 refine aw (m1:=.mk) (m2:=.mk) [.nf [0,1,7,8] []] (iw v0 f_v1 k_v1 ((v0.length:Nat):Int)) l1 ?_ ?_
 ·simp(config:=cS)only[go_sem,hc_v1.1,hc_v1.2,hm_v1,hk_v1]
 ·intro nb2 v8_1 bb2 b2 gb2
  unfold bz at b2
  try dsimp only at b2
  obtain ⟨h3,b2⟩|⟨h3,b2⟩:=af b2
  ·obtain ⟨x01,g4,b2⟩:=ae b2
   obtain ⟨h5,h6,h7⟩:=ak g4
   obtain ⟨r02,g8,b2⟩:=ae b2
   simp(config:=cS)only[go_sem,hc_v1.1,hc_v1.2,hm_v1,hk_v1,eqT h3,h5,h6,h7]
   refine ag (hp_v1 _ _ g8) ?_
   obtain ⟨h9,b2⟩|⟨h9,b2⟩:=af b2
   ·cases b2
    obtain rfl:=(aj gb2).symm
    try dsimp only at h
    cases h
    simp(config:=cS)only[go_sem,hc_v1.1,hc_v1.2,hm_v1,hk_v1,eqT h3,h5,h6,h7,eZt h9]
   ·cases b2
    simp(config:=cS)only[go_sem,hc_v1.1,hc_v1.2,hm_v1,hk_v1,eqT h3,h5,h6,h7,eZf h9]
    refine au gb2 ?_
    simp(config:=cS)only[go_sem,hc_v1.1,hc_v1.2,hm_v1,hk_v1,eqT h3,h5,h6,h7,eZf h9]
  ·cases b2
   obtain rfl:=(aj gb2).symm
   try dsimp only at h
   cases h
   simp(config:=cS)only[go_sem,hc_v1.1,hc_v1.2,hm_v1,hk_v1,eqF h3]
attribute [go_sem] Tryz.ntmps141 Tryz.results141
theorem fJ {v0:List Int}{v1:Int→Option Bool}{f_v1:Nat}{k_v1:List AV}(hp_v1:∀ y0 r,v1 y0=some r→am Tryz.prog f_v1 ([.lit (.int .i64 y0)]++k_v1) [] (.lit (.bool r)) [])(hc_v1:KC k_v1)(hm_v1:∀ a,mdT f_v1 a=⟨[],false⟩)(hk_v1:spf f_v1=false){res:Bool}(h:aX v0 v1=some res):am Tryz.prog 141 [.sl (ab eI v0),.fn f_v1 k_v1] [] (.lit (.bool res)) []:=by
 refine ai (ra:=[]) (md:=mdT) hT (hi:=hi00) Tryz.func141 rfl rfl (by decide +kernel) (by simp) ?_
 unfold aX at h
 obtain ⟨r01,g1,h⟩:=ae h
 simp(config:=cS)only[go_sem,hc_v1.1,hc_v1.2,hm_v1,hk_v1]
 refine ag (kS hp_v1 hc_v1 hm_v1 hk_v1 g1) ?_
 cases h
 simp(config:=cS)only[go_sem]
def ia (c:List GNode)(a:Nat)(b:List AV)(d e:Int):St:=⟨[(0,.sl (ab GNode.encS c)),(1,.fn a b),(7,.lit (.int .i64 d)),(8,.lit (.int .i64 e))],[],2⟩
attribute [go_sem] ia
attribute [go_sem] Tryz.ntmps231 Tryz.results231
theorem pE {v0:List GNode}{v1:GNode→Option Bool}{f_v1:Nat}{k_v1:List AV}(hp_v1:∀ y0 r,v1 y0=some r→am Tryz.prog f_v1 ([.agg (GNode.encS y0)]++k_v1) [] (.lit (.bool r)) [])(hc_v1:KC k_v1)(hm_v1:∀ a,mdT f_v1 a=⟨[],false⟩)(hk_v1:spf f_v1=false){res:Int}(h:cE v0 v1=some res):am Tryz.prog 231 [.sl (ab GNode.encS v0),.fn f_v1 k_v1] [] (.lit (.int .i64 res)) []:=by
 refine ai (ra:=[]) (md:=mdT) hT (hi:=hi00) Tryz.func231 rfl rfl (by decide +kernel) (by simp) ?_
 unfold cE at h
 obtain ⟨q03,l1,h⟩:=ae h
 simp(config:=cS)only[go_sem,hc_v1.1,hc_v1.2,hm_v1,hk_v1]
 refine aw (m1:=.mk) (m2:=.mk) [.nf [0,1,7,8] []] (ia v0 f_v1 k_v1 ((v0.length:Nat):Int)) l1 ?_ ?_
 ·simp(config:=cS)only[go_sem,hc_v1.1,hc_v1.2,hm_v1,hk_v1]
 ·intro nb2 v8_1 bb2 b2 gb2
  unfold bp at b2
  try dsimp only at b2
  obtain ⟨h3,b2⟩|⟨h3,b2⟩:=af b2
  ·obtain ⟨x01,g4,b2⟩:=ae b2
   obtain ⟨h5,h6,h7⟩:=ak g4
   obtain ⟨r02,g8,b2⟩:=ae b2
   simp(config:=cS)only[go_sem,hc_v1.1,hc_v1.2,hm_v1,hk_v1,eqT h3,h5,h6,h7]
   refine ag (hp_v1 _ _ g8) ?_
   obtain ⟨h9,b2⟩|⟨h9,b2⟩:=af b2
   ·cases b2
    obtain rfl:=(aj gb2).symm
    try dsimp only at h
    cases h
    simp(config:=cS)only[go_sem,hc_v1.1,hc_v1.2,hm_v1,hk_v1,eqT h3,h5,h6,h7,eZt h9]
   ·cases b2
    simp(config:=cS)only[go_sem,hc_v1.1,hc_v1.2,hm_v1,hk_v1,eqT h3,h5,h6,h7,eZf h9]
    refine au gb2 ?_
    simp(config:=cS)only[go_sem,hc_v1.1,hc_v1.2,hm_v1,hk_v1,eqT h3,h5,h6,h7,eZf h9]
  ·cases b2
   obtain rfl:=(aj gb2).symm
   try dsimp only at h
   cases h
   simp(config:=cS)only[go_sem,hc_v1.1,hc_v1.2,hm_v1,hk_v1,eqF h3]
attribute [go_sem] Tryz.ntmps232 Tryz.results232
theorem ui {n:GNode}{p:Int}{res:Bool}(h:ii n p=some res):am Tryz.prog 232 [.agg (GNode.encS n),.loc [.lit (.int .i64 p)]] [] (.lit (.bool res)) []:=by
 refine ai (ra:=[]) (md:=mdT) hT (hi:=hi00) Tryz.func232 rfl rfl (by decide +kernel) (by simp) ?_
 unfold ii at h
 obtain ⟨h1,h⟩|⟨h1,h⟩:=af h
 ·cases h
  simp(config:=cS)only[go_sem,eqT h1]
 ·cases h
  simp(config:=cS)only[go_sem,eqF h1]
attribute [go_sem] Tryz.ntmps145 Tryz.results145
theorem qI {s:GShow}{p res:Int}(h:fV s p=some res):am Tryz.prog 145 [.agg (GShow.encS s),.lit (.int .i64 p)] [] (.lit (.int .i64 res)) []:=by
 refine ai (ra:=[]) (md:=mdT) hT (hi:=hi00) Tryz.func145 rfl rfl (by decide +kernel) (by simp) ?_
 unfold fV at h
 obtain ⟨r01,g1,h⟩:=ae h
 simp(config:=cS)only[go_sem]
 refine ag (pE (by exact fun _ _ hr=>ui hr) (by refine ⟨fun _=>?_,fun _=>?_⟩ <;> simp only [go_sem]) (fun _=>rfl) rfl g1) ?_
 cases h
 simp(config:=cS)only[go_sem]
def ka (a:List Int)(b c d:Int):St:=⟨[(0,.sl (ab eI a)),(1,.lit (.int .i64 b)),(7,.lit (.int .i64 c)),(8,.lit (.int .i64 d))],[],2⟩
attribute [go_sem] ka
attribute [go_sem] Tryz.ntmps189 Tryz.results189
theorem sQ {v0:List Int}{v1 res:Int}(h:eT v0 v1=some res):am Tryz.prog 189 [.sl (ab eI v0),.lit (.int .i64 v1)] [] (.lit (.int .i64 res)) []:=by
 refine ai (ra:=[]) (md:=mdT) hT (hi:=hi00) Tryz.func189 rfl rfl (by decide +kernel) (by simp) ?_
 unfold eT at h
 obtain ⟨q02,l1,h⟩:=ae h
 simp(config:=cS)only[go_sem]
 refine aw (m1:=.mk) (m2:=.mk) [.nf [0,1,7,8] []] (ka v0 v1 ((v0.length:Nat):Int)) l1 ?_ ?_
 ·simp(config:=cS)only[go_sem]
 ·intro nb2 v8_1 bb2 b2 gb2
  unfold ch at b2
  try dsimp only at b2
  obtain ⟨h3,b2⟩|⟨h3,b2⟩:=af b2
  ·obtain ⟨x01,g4,b2⟩:=ae b2
   obtain ⟨h5,h6,h7⟩:=ak g4
   obtain ⟨h8,b2⟩|⟨h8,b2⟩:=af b2
   ·cases b2
    obtain rfl:=(aj gb2).symm
    try dsimp only at h
    cases h
    simp(config:=cS)only[go_sem,eqT h3,h5,h6,h7,eqT h8]
   ·cases b2
    simp(config:=cS)only[go_sem,eqT h3,h5,h6,h7,eqF h8]
    refine au gb2 ?_
    simp(config:=cS)only[go_sem]
  ·cases b2
   obtain rfl:=(aj gb2).symm
   try dsimp only at h
   cases h
   simp(config:=cS)only[go_sem,eqF h3]
attribute [go_sem] Tryz.ntmps229 Tryz.results229
theorem ix {v0:List Int}{v1:Int}{res:Bool}(h:bF v0 v1=some res):am Tryz.prog 229 [.sl (ab eI v0),.lit (.int .i64 v1)] [] (.lit (.bool res)) []:=by
 refine ai (ra:=[]) (md:=mdT) hT (hi:=hi00) Tryz.func229 rfl rfl (by decide +kernel) (by simp) ?_
 unfold bF at h
 obtain ⟨r01,g1,h⟩:=ae h
 simp(config:=cS)only[go_sem]
 refine ag (sQ g1) ?_
 cases h
 simp(config:=cS)only[go_sem]
attribute [go_sem] Tryz.ntmps276 Tryz.results276
theorem qd {v0:Int}{a:List Int}{res:Bool}(h:eD v0 a=some res):am Tryz.prog 276 [.lit (.int .i64 v0),.loc [.sl (ab eI a)]] [] (.lit (.bool res)) []:=by
 refine ai (ra:=[]) (md:=mdT) hT (hi:=hi00) Tryz.func276 rfl rfl (by decide +kernel) (by simp) ?_
 unfold eD at h
 obtain ⟨r01,g1,h⟩:=ae h
 simp(config:=cS)only[go_sem]
 refine ag (ix g1) ?_
 cases h
 simp(config:=cS)only[go_sem]
attribute [go_sem] Tryz.ntmps230 Tryz.results230
theorem rZ {a b:List Int}{res:Bool}(h:dX a b=some res):am Tryz.prog 230 [.sl (ab eI a),.sl (ab eI b)] [] (.lit (.bool res)) []:=by
 refine ai (ra:=[]) (md:=mdT) hT (hi:=hi00) Tryz.func230 rfl rfl (by decide +kernel) (by simp) ?_
 unfold dX at h
 obtain ⟨r01,g1,h⟩:=ae h
 simp(config:=cS)only[go_sem]
 refine ag (iu g1) ?_
 obtain ⟨h2,h⟩|⟨h2,h⟩:=af h
 ·obtain ⟨r02,g3,h⟩:=ae h
  simp(config:=cS)only[go_sem,eZt h2]
  refine ag (iu g3) ?_
  obtain ⟨h4,h⟩|⟨h4,h⟩:=af h
  ·obtain ⟨r03,g5,h⟩:=ae h
   simp(config:=cS)only[go_sem,eZt h2,eZt h4]
   refine ag (fJ (by exact fun _ _ hr=>qd hr) (by refine ⟨fun _=>?_,fun _=>?_⟩ <;> simp only [go_sem]) (fun _=>rfl) rfl g5) ?_
   cases h
   simp(config:=cS)only[go_sem,eZt h2,eZt h4]
  ·cases h
   simp(config:=cS)only[go_sem,eZt h2,eZf h4]
 ·cases h
  simp(config:=cS)only[go_sem,eZf h2]
@[go_sem] def hi143_1:DT:=.i1 0 (.i2 1 (.i0 2 [0] (.i2 3 (.i2 4 .nil))))
def BA:Hint where
 acts:=fun _=>[]
 draws:=fun
  | 1=>⟨hi143_1,[[],[],[1],[0,1,2],[0,1,2,3]],.range 5⟩
  | _=>⟨.nil,[],[]⟩
theorem LM (i:Nat):BA.acts i=[]:=rfl
theorem LN (i:Nat):BA.views i=none:=rfl
attribute [go_sem] LM LN Tryz.ntmps143 Tryz.results143
@[go_sem] theorem NT:(BA.draws 1).order=hi143_1:=rfl
theorem vD {s:GShow}{label:List Int}{v2:Int}{res:Bool}(h:gn s label v2=some res):am Tryz.prog 143 [.agg (GShow.encS s),.sl (ab eI label),.lit (.int .i64 v2)] [] (.lit (.bool res)) []:=by
 refine ai (ra:=[]) (md:=mdT) hT (hi:=BA) Tryz.func143 rfl rfl (by decide +kernel) (by simp) ?_
 unfold gn at h
 obtain ⟨r01,g1,h⟩:=ae h
 simp(config:=cS)only[go_sem]
 refine ag (gF g1) ?_
 obtain ⟨r02,g2,h⟩:=ae h
 simp(config:=cS)only[go_sem]
 refine ag (qI g2) ?_
 obtain ⟨h3,h⟩|⟨h3,h⟩:=af h
 ·cases h
  simp(config:=cS)only[go_sem,eqT h3]
 ·obtain ⟨x03,g4,h⟩:=ae h
  obtain ⟨h5,h6,h7⟩:=ak g4
  obtain ⟨r04,g8,h⟩:=ae h
  simp(config:=cS)only[go_sem,eqF h3,h5,h6,h7]
  refine ag (ix g8) ?_
  obtain ⟨h9,h⟩|⟨h9,h⟩:=af h
  ·cases h
   simp(config:=cS)only[go_sem,eqF h3,h5,h6,h7,eZt h9]
  ·obtain ⟨r05,g10,h⟩:=ae h
   simp(config:=cS)only[go_sem,eqF h3,h5,h6,h7,eZf h9]
   refine ag (ix g10) ?_
   obtain ⟨h11,h⟩|⟨h11,h⟩:=af h
   ·cases h
    simp(config:=cS)only[go_sem,eqF h3,h5,h6,h7,eZf h9,eZt h11]
   ·obtain ⟨r06,g12,h⟩:=ae h
    simp(config:=cS)only[go_sem,eqF h3,h5,h6,h7,eZf h9,eZf h11]
    refine ag (rZ g12) ?_
    cases h
    simp(config:=cS)only[go_sem,eqF h3,h5,h6,h7,eZf h9,eZf h11]
attribute [go_sem] Tryz.ntmps142 Tryz.results142
theorem vE {v0:Int}{s:GShow}{n:GNode}{res:Bool}(h:gp v0 s n=some res):am Tryz.prog 142 [.lit (.int .i64 v0),.loc [.sl (ab GNode.encS s.nodes),.sl (ab GTie.enc s.ties),.lit (.int .i64 s.horizon)],.loc [.lit (.string n.name),.sl (ab eI n.label),.lit (.int .i64 n.watch)]] [] (.lit (.bool res)) []:=by
 refine ai (ra:=[]) (md:=mdT) hT (hi:=hi00) Tryz.func142 rfl rfl (by decide +kernel) (by simp) ?_
 unfold gp at h
 obtain ⟨r01,g1,h⟩:=ae h
 simp(config:=cS)only[go_sem]
 refine ag (vD g1) ?_
 cases h
 simp(config:=cS)only[go_sem]
def mY (a:List GNode)(b:Int)(c:List GTie)(d e:Int):St:=⟨[(1,.ptr 64 1 0 0),(24,.sl (ab GNode.encS a)),(25,.lit (.int .i64 b)),(26,.lit (.int .i64 e))],[(64,1,.var [.sl (ab GNode.encS a),.sl (ab GTie.enc c),.lit (.int .i64 d)])],2⟩
attribute [go_sem] mY
attribute [go_sem] Tryz.ntmps67 Tryz.results67
theorem oB {s:GShow}{res:Bool}(h:fe s=some res):am Tryz.prog 67 [.agg (GShow.encS s)] [] (.lit (.bool res)) []:=by
 refine ai (ra:=[]) (md:=mdT) hT (hi:=hi00) Tryz.func67 rfl rfl (by decide +kernel) (by simp) ?_
 unfold fe at h
 obtain ⟨r01,g1,h⟩:=ae h
 simp(config:=cS)only[go_sem]
 refine ag (xx g1) ?_
 obtain ⟨h2,h⟩|⟨h2,h⟩:=af h
 ·obtain ⟨r02,g3,h⟩:=ae h
  simp(config:=cS)only[go_sem,eZt h2]
  refine ag (yS g3) ?_
  obtain ⟨h4,h⟩|⟨h4,h⟩:=af h
  ·obtain ⟨h5,h⟩|⟨h5,h⟩:=af h
   ·cases h
    simp(config:=cS)only[go_sem,eZt h2,eZt h4,eqT h5]
   ·obtain ⟨h6,h⟩|⟨h6,h⟩:=af h
    ·cases h
     simp(config:=cS)only[go_sem,eZt h2,eZt h4,eqF h5,eqT h6]
    ·obtain ⟨q05,l7,h⟩:=ae h
     simp(config:=cS)only[go_sem,eZt h2,eZt h4,eqF h5,eqF h6]
     refine aw (m1:=.mk) (m2:=.mk) [.nf [1,24,25,26] [64]] (mY s.nodes ((s.nodes.length:Nat):Int) s.ties s.horizon) l7 ?_ ?_
     ·simp(config:=cS)only[go_sem,eZt h2,eZt h4,eqF h5,eqF h6]
     ·intro nb8 v26_1 bb8 b8 gb8
      unfold ex at b8
      try dsimp only at b8
      obtain ⟨h9,b8⟩|⟨h9,b8⟩:=af b8
      ·obtain ⟨x03,g10,b8⟩:=ae b8
       obtain ⟨h11,h12,h13⟩:=ak g10
       obtain ⟨r04,g14,b8⟩:=ae b8
       simp(config:=cS)only[go_sem,eZt h2,eZt h4,eqF h5,eqF h6,eqT h9,h11,h12,h13]
       refine ag (fJ (by exact fun _ _ hr=>vE hr) (by refine ⟨fun _=>?_,fun _=>?_⟩ <;> simp only [go_sem]) (fun _=>rfl) rfl g14) ?_
       obtain ⟨h15,b8⟩|⟨h15,b8⟩:=af b8
       ·cases b8
        obtain rfl:=(aj gb8).symm
        try dsimp only at h
        cases h
        simp(config:=cS)only[go_sem,eZt h2,eZt h4,eqF h5,eqF h6,eqT h9,h11,h12,h13,eZt h15]
       ·cases b8
        simp(config:=cS)only[go_sem,eZt h2,eZt h4,eqF h5,eqF h6,eqT h9,h11,h12,h13,eZf h15]
        refine au gb8 ?_
        simp(config:=cS)only[go_sem,eZt h2,eZt h4,eqF h5,eqF h6,eqT h9,h11,h12,h13,eZf h15]
      ·cases b8
       obtain rfl:=(aj gb8).symm
       try dsimp only at h
       cases h
       simp(config:=cS)only[go_sem,eZt h2,eZt h4,eqF h5,eqF h6,eqF h9]
  ·cases h
   simp(config:=cS)only[go_sem,eZt h2,eZf h4]
 ·cases h
  simp(config:=cS)only[go_sem,eZf h2]
attribute [go_sem] Tryz.ntmps301 Tryz.results301
theorem Ct {v0 y:Int}{res:Int × Int}(h:pu v0 y=some res):am Tryz.prog 301 [.lit (.int .u64 v0),.lit (.int .u64 y)] [] (.tup [.lit (.int .u64 res.1),.lit (.int .u64 res.2)]) []:=by
 refine ai (ra:=[]) (md:=mdT) hT (hi:=hi00) Tryz.func301 rfl rfl (by decide +kernel) (by simp) ?_
 unfold pu at h
 cases h
 simp(config:=cS)only[go_sem]
attribute [go_sem] Tryz.ntmps261 Tryz.results261
theorem Fv {v0 y:Int}{res:Int × Int}(h:eE v0 y=some res):am Tryz.prog 261 [.lit (.int .u64 v0),.lit (.int .u64 y)] [] (.tup [.lit (.int .u64 res.1),.lit (.int .u64 res.2)]) []:=by
 refine ai (ra:=[]) (md:=mdT) hT (hi:=hi00) Tryz.func261 rfl rfl (by decide +kernel) (by simp) ?_
 unfold eE at h
 obtain ⟨r01,g1,h⟩:=ae h
 simp(config:=cS)only[go_sem]
 refine ag (Ct g1) ?_
 cases h
 simp(config:=cS)only[go_sem]
def jK  : (Int × (List Int))→St
 | (b,a)=>⟨[(7,.ref 1920 1 0 a.length),(8,.lit (.int .i64 b))],[(1920,1,.row true (ab eI a))],2⟩
attribute [go_sem] jK
@[go_sem] def hi190_9:DT:=.i2 0 (.i2 1 (.i2 2 (.i2 3 (.i2 4 (.i2 5 (.i2 6 (.i2 7 (.i2 8 (.i2 9 .nil)))))))))
def BB:Hint where
 acts:=fun _=>[]
 draws:=fun
  | 9=>⟨hi190_9,[[],[],[],[1,2],[],[],[4,5],[1,2,3,4,5,6],.range 8,.range 9],.range 10⟩
  | _=>⟨.nil,[],[]⟩
theorem LO (i:Nat):BB.acts i=[]:=rfl
theorem LP (i:Nat):BB.views i=none:=rfl
attribute [go_sem] LO LP Tryz.ntmps190 Tryz.results190
@[go_sem] theorem NU:(BB.draws 9).order=hi190_9:=rfl
theorem aW {v0:List Int}{v1:Int}{res:List Int}(h:aH v0 v1=some res):am Tryz.prog 190 [.sl (ab eI v0),.lit (.int .i64 v1)] [] (.ref 20000 1 0 res.length) [(20000,1,.row true (ab eI res))]:=by
 refine ai (ra:=[.home 4]) (md:=mdT) hT (hi:=BB) Tryz.func190 rfl rfl (by decide +kernel) (by simp) ?_
 unfold aH at h
 obtain ⟨h1,h⟩|⟨h1,h⟩:=af h
 ·cases h
 ·obtain ⟨r01,g2,h⟩:=ae h
  simp(config:=cS)only[go_sem,eqF h1]
  refine ag (Fv g2) ?_
  obtain ⟨h3,h⟩|⟨h3,h⟩:=af h
  ·cases h
  ·obtain ⟨h4,h⟩|⟨h4,h⟩:=af h
   ·cases h
   ·obtain ⟨h5,h⟩:=al h
    obtain ⟨h6,h⟩:=al h
    obtain ⟨h7,h⟩:=al h
    obtain ⟨q02,l8,h⟩:=ae h
    simp(config:=cS)only[go_sem,eqF h3,eqF h4,eqT h5,eqT h6,eqT h7]
    refine aw (m1:=.mk) (m2:=.mk) [.nf [7,8] [1920]] (jK) l8 ?_ ?_
    ·simp(config:=cS)only[go_sem]
    ·intro nb9 sb9 bb9 b9 gb9
     obtain ⟨v8_1,v7_1⟩:=sb9
     unfold ay at b9
     try dsimp only at b9
     obtain ⟨h10,b9⟩|⟨h10,b9⟩:=af b9
     ·obtain ⟨h11,b9⟩:=al b9
      obtain ⟨h12,b9⟩:=al b9
      obtain ⟨h13,b9⟩:=al b9
      cases b9
      simp(config:=cS)only[go_sem,eqT h10,eqT h11,eqT h12,eqT h13]
      refine au gb9 ?_
      simp(config:=cS)only[go_sem]
     ·cases b9
      obtain rfl:=(aj gb9).symm
      try dsimp only at h
      cases h
      simp(config:=cS)only[go_sem,eqF h10]
@[go_sem] def hi109_3:DT:=.i1 1 (.i1 2 (.i1 3 (.fork (.i0 0 [1,2,3] (.fork (.i2 4 (.fork (.i0 5 [1,2,3] (.i2 6 (.i0 7 [1,2,3] (.i2 8 .nil)))) (.i0 7 [1,2,3] (.i0 5 [1,2,3] (.i2 6 (.i2 8 .nil)))))) (.fork (.i0 5 [1,2,3] (.fork (.i2 4 (.i2 6 (.i0 7 [1,2,3] (.i2 8 .nil)))) (.i0 7 [1,2,3] (.i2 4 (.i2 6 (.i2 8 .nil)))))) (.i0 7 [1,2,3] (.fork (.i2 4 (.i0 5 [1,2,3] (.i2 6 (.i2 8 .nil)))) (.i0 5 [1,2,3] (.i2 4 (.i2 6 (.i2 8 .nil))))))))) (.fork (.i0 5 [1,2,3] (.fork (.i0 0 [1,2,3] (.fork (.i2 4 (.i2 6 (.i0 7 [1,2,3] (.i2 8 .nil)))) (.i0 7 [1,2,3] (.i2 4 (.i2 6 (.i2 8 .nil)))))) (.i0 7 [1,2,3] (.i0 0 [1,2,3] (.i2 4 (.i2 6 (.i2 8 .nil))))))) (.i0 7 [1,2,3] (.fork (.i0 0 [1,2,3] (.fork (.i2 4 (.i0 5 [1,2,3] (.i2 6 (.i2 8 .nil)))) (.i0 5 [1,2,3] (.i2 4 (.i2 6 (.i2 8 .nil)))))) (.i0 5 [1,2,3] (.i0 0 [1,2,3] (.i2 4 (.i2 6 (.i2 8 .nil)))))))))))
def BC:Hint where
 acts:=fun _=>[]
 draws:=fun
  | 3=>⟨hi109_3,[[],[],[1],[1,2],[0,1,2,3],[],.range 6,[],.range 8],.range 9⟩
  | _=>⟨.nil,[],[]⟩
theorem LQ (i:Nat):BC.acts i=[]:=rfl
theorem LR (i:Nat):BC.views i=none:=rfl
attribute [go_sem] LQ LR Tryz.ntmps109 Tryz.results109
@[go_sem] theorem NV:(BC.draws 3).order=hi109_3:=rfl
theorem uj {s:GShow}{res:GState}(h:fv s=some res):am Tryz.prog 109 [.agg (GShow.encS s)] [] (.agg [.lit (.int .i64 res.now),.ref 20000 1 0 res.times.length,.ref 20001 1 0 res.values.length]) [(20000,1,.row true (ab eI res.times)),(20001,1,.row true (ab eI res.values))]:=by
 refine ai (ra:=[.homeCell 128 1,.homeCell 128 2]) (md:=mdT) hT (hi:=BC) Tryz.func109 rfl rfl (by decide +kernel) (by simp) ?_
 unfold fv at h
 obtain ⟨r01,g1,h⟩:=ae h
 simp(config:=cS)only[go_sem]
 refine ag (oB g1) ?_
 obtain ⟨h2,h⟩|⟨h2,h⟩:=af h
 ·try simp(config:=cS)only[go_sem,eZt h2]
  refine gJ ?_ ?_
  ·try simp(config:=cS)only[go_sem]
   refine gJ ?_ ?_
   ·obtain ⟨r02,g3,h⟩:=ae h
    simp(config:=cS)only[go_sem]
    refine ag (aW g3) ?_
    try simp(config:=cS)only[go_sem]
    refine gJ ?_ ?_
    ·obtain ⟨x03,g4,h⟩:=ae h
     obtain ⟨h6,h7⟩:=cU (k:=0) g4
     cases h
     simp(config:=cS)only[go_sem,h6,h7]
    ·obtain ⟨x04,g8,h⟩:=ae h
     obtain ⟨h10,h11⟩:=cU (k:=0) g8
     cases h
     simp(config:=cS)only[go_sem,h10,h11]
   ·try simp(config:=cS)only[go_sem]
    refine gJ ?_ ?_
    ·try simp(config:=cS)only[go_sem]
     refine gJ ?_ ?_
     ·obtain ⟨r05,g12,h⟩:=ae h
      simp(config:=cS)only[go_sem]
      refine ag (aW g12) ?_
      obtain ⟨x06,g13,h⟩:=ae h
      obtain ⟨h15,h16⟩:=cU (k:=0) g13
      cases h
      simp(config:=cS)only[go_sem,h15,h16]
     ·obtain ⟨r07,g17,h⟩:=ae h
      simp(config:=cS)only[go_sem]
      refine ag (aW g17) ?_
      obtain ⟨x08,g18,h⟩:=ae h
      obtain ⟨h20,h21⟩:=cU (k:=0) g18
      cases h
      simp(config:=cS)only[go_sem,h20,h21]
    ·try simp(config:=cS)only[go_sem]
     refine gJ ?_ ?_
     ·obtain ⟨r09,g22,h⟩:=ae h
      simp(config:=cS)only[go_sem]
      refine ag (aW g22) ?_
      obtain ⟨x10,g23,h⟩:=ae h
      obtain ⟨h25,h26⟩:=cU (k:=0) g23
      cases h
      simp(config:=cS)only[go_sem,h25,h26]
     ·obtain ⟨r11,g27,h⟩:=ae h
      simp(config:=cS)only[go_sem]
      refine ag (aW g27) ?_
      obtain ⟨x12,g28,h⟩:=ae h
      obtain ⟨h30,h31⟩:=cU (k:=0) g28
      cases h
      simp(config:=cS)only[go_sem,h30,h31]
  ·try simp(config:=cS)only[go_sem]
   refine gJ ?_ ?_
   ·try simp(config:=cS)only[go_sem]
    refine gJ ?_ ?_
    ·try simp(config:=cS)only[go_sem]
     refine gJ ?_ ?_
     ·obtain ⟨r13,g32,h⟩:=ae h
      simp(config:=cS)only[go_sem]
      refine ag (aW g32) ?_
      obtain ⟨x14,g33,h⟩:=ae h
      obtain ⟨h35,h36⟩:=cU (k:=0) g33
      cases h
      simp(config:=cS)only[go_sem,h35,h36]
     ·obtain ⟨r15,g37,h⟩:=ae h
      simp(config:=cS)only[go_sem]
      refine ag (aW g37) ?_
      obtain ⟨x16,g38,h⟩:=ae h
      obtain ⟨h40,h41⟩:=cU (k:=0) g38
      cases h
      simp(config:=cS)only[go_sem,h40,h41]
    ·obtain ⟨r17,g42,h⟩:=ae h
     simp(config:=cS)only[go_sem]
     refine ag (aW g42) ?_
     obtain ⟨x18,g43,h⟩:=ae h
     obtain ⟨h45,h46⟩:=cU (k:=0) g43
     cases h
     simp(config:=cS)only[go_sem,h45,h46]
   ·try simp(config:=cS)only[go_sem]
    refine gJ ?_ ?_
    ·try simp(config:=cS)only[go_sem]
     refine gJ ?_ ?_
     ·obtain ⟨r19,g47,h⟩:=ae h
      simp(config:=cS)only[go_sem]
      refine ag (aW g47) ?_
      obtain ⟨x20,g48,h⟩:=ae h
      obtain ⟨h50,h51⟩:=cU (k:=0) g48
      cases h
      simp(config:=cS)only[go_sem,h50,h51]
     ·obtain ⟨r21,g52,h⟩:=ae h
      simp(config:=cS)only[go_sem]
      refine ag (aW g52) ?_
      obtain ⟨x22,g53,h⟩:=ae h
      obtain ⟨h55,h56⟩:=cU (k:=0) g53
      cases h
      simp(config:=cS)only[go_sem,h55,h56]
    ·obtain ⟨r23,g57,h⟩:=ae h
     simp(config:=cS)only[go_sem]
     refine ag (aW g57) ?_
     obtain ⟨x24,g58,h⟩:=ae h
     obtain ⟨h60,h61⟩:=cU (k:=0) g58
     cases h
     simp(config:=cS)only[go_sem,h60,h61]
 ·cases h
  simp(config:=cS)only[go_sem,eZf h2]
def mZ (g:List GTie)(e b:Int)(c d:List Int):(Int × (List Int))→St
 | (f,a)=>⟨[(3,.ptr 192 1 0 0),(5,.ref 383 1 0 a.length),(9,.sl (ab GTie.enc g)),(10,.lit (.int .i64 e)),(11,.lit (.int .i64 f))],[(192,1,.var [.lit (.int .i64 b),.sl (ab eI c),.sl (ab eI d)]),(383,1,.row true (ab eI a))],2⟩
attribute [go_sem] mZ
attribute [go_sem] Tryz.ntmps187 Tryz.results187
theorem AK {s:GShow}{v1:GState}{res:List Int}(h:ju s v1=some res):am Tryz.prog 187 [.agg (GShow.encS s),.agg (GState.encS v1)] [] (.ref 20000 1 0 res.length) [(20000,1,.row true (ab eI res))]:=by
 refine ai (ra:=[.home 4]) (md:=mdT) hT (hi:=hi00) Tryz.func187 rfl rfl (by decide +kernel) (by simp) ?_
 unfold ju at h
 obtain ⟨q04,l1,h⟩:=ae h
 simp(config:=cS)only[go_sem]
 refine aw (m1:=.mk) (m2:=.mk) [.home 5,.nf [3,5,9,10,11] [192,383]] (mZ s.ties ((s.ties.length:Nat):Int) v1.now v1.times v1.values) l1 ?_ ?_
 ·simp(config:=cS)only[go_sem]
 ·intro nb2 sb2 bb2 b2 gb2
  obtain ⟨v11_1,out_1⟩:=sb2
  unfold gq at b2
  try dsimp only at b2
  obtain ⟨h3,b2⟩|⟨h3,b2⟩:=af b2
  ·obtain ⟨x01,g4,b2⟩:=ae b2
   obtain ⟨h5,h6,h7⟩:=ak g4
   obtain ⟨h8,b2⟩|⟨h8,b2⟩:=af b2
   ·obtain ⟨x02,g9,b2⟩:=ae b2
    obtain ⟨h10,h11,h12⟩:=ak g9
    obtain ⟨h13,b2⟩|⟨h13,b2⟩:=af b2
    ·cases b2
     simp(config:=cS)only[go_sem,eqT h3,h5,h6,h7,eZt h8,h10,h11,h12,eqT h13]
     refine au gb2 ?_
     simp(config:=cS)only[go_sem]
    ·obtain ⟨x03,g14,b2⟩:=ae b2
     obtain ⟨h15,h16,h17⟩:=ak g14
     obtain ⟨h18,b2⟩|⟨h18,b2⟩:=af b2
     ·obtain ⟨h19,b2⟩:=al b2
      obtain ⟨h20,b2⟩:=al b2
      cases b2
      simp(config:=cS)only[go_sem,eqT h3,h5,h6,h7,eZt h8,h10,h11,h12,eqF h13,h15,h16,h17,eqT h18,eqT h19,eqT h20]
      refine au gb2 ?_
      simp(config:=cS)only[go_sem]
     ·cases b2
      simp(config:=cS)only[go_sem,eqT h3,h5,h6,h7,eZt h8,h10,h11,h12,eqF h13,h15,h16,h17,eqF h18]
      refine au gb2 ?_
      simp(config:=cS)only[go_sem]
   ·cases b2
    simp(config:=cS)only[go_sem,eqT h3,h5,h6,h7,eZf h8]
    refine au gb2 ?_
    simp(config:=cS)only[go_sem]
  ·cases b2
   obtain rfl:=(aj gb2).symm
   try dsimp only at h
   cases h
   simp(config:=cS)only[go_sem,eqF h3]
def mB (b:Int)(d:List Int)(e:Int):(Int × (List Int))→St
 | (c,a)=>⟨[(1,.lit (.int .i64 b)),(5,.ref 383 1 0 a.length),(8,.sl (ab eI d)),(9,.lit (.int .i64 e)),(10,.lit (.int .i64 c))],[(383,1,.row true (ab eI a))],2⟩
attribute [go_sem] mB
attribute [go_sem] Tryz.ntmps265 Tryz.results265
theorem qJ {list:List Int}{set:Int}{res:List Int}(h:fW list set=some res):am Tryz.prog 265 [.sl (ab eI list),.lit (.int .i64 set)] [] (.ref 20000 1 0 res.length) [(20000,1,.row true (ab eI res))]:=by
 refine ai (ra:=[.home 4]) (md:=mdT) hT (hi:=hi00) Tryz.func265 rfl rfl (by decide +kernel) (by simp) ?_
 unfold fW at h
 obtain ⟨q02,l1,h⟩:=ae h
 simp(config:=cS)only[go_sem]
 refine aw (m1:=.mk) (m2:=.mk) [.home 5,.nf [1,5,8,9,10] [383]] (mB set list ((list.length:Nat):Int)) l1 ?_ ?_
 ·simp(config:=cS)only[go_sem]
 ·intro nb2 sb2 bb2 b2 gb2
  obtain ⟨v10_1,out_1⟩:=sb2
  unfold fw at b2
  try dsimp only at b2
  obtain ⟨h3,b2⟩|⟨h3,b2⟩:=af b2
  ·obtain ⟨x01,g4,b2⟩:=ae b2
   obtain ⟨h5,h6,h7⟩:=ak g4
   obtain ⟨h8,b2⟩:=al b2
   obtain ⟨h9,b2⟩|⟨h9,b2⟩:=af b2
   ·obtain ⟨h10,b2⟩:=al b2
    obtain ⟨h11,b2⟩:=al b2
    cases b2
    simp(config:=cS)only[go_sem,eqT h3,h5,h6,h7,eqF h8,eqT h9,eqT h10,eqT h11]
    refine au gb2 ?_
    simp(config:=cS)only[go_sem]
   ·cases b2
    simp(config:=cS)only[go_sem,eqT h3,h5,h6,h7,eqF h8,eqF h9]
    refine au gb2 ?_
    simp(config:=cS)only[go_sem]
  ·cases b2
   obtain rfl:=(aj gb2).symm
   try dsimp only at h
   cases h
   simp(config:=cS)only[go_sem,eqF h3]
attribute [go_sem] Tryz.ntmps302 Tryz.results302
theorem uk {v1:Int}{res:List Int × Nat}(h:fx v1=some res):am Tryz.prog 302 [.lit (.slice none 0 0),.lit (.int .i64 v1)] [] (.ref 20000 1 0 res.2) [(20000,1,.row true (ab eI res.1))]:=by
 refine ai (ra:=[.home 4]) (md:=mdT) hT (hi:=hi00) Tryz.func302 rfl rfl (by decide +kernel) (by simp) ?_
 unfold fx at h
 obtain ⟨h1,h⟩|⟨h1,h⟩:=af h
 ·cases h
 ·obtain ⟨h2,h⟩|⟨h2,h⟩:=af h
  ·obtain ⟨h3,h⟩:=al h
   obtain ⟨h4,h⟩:=al h
   obtain ⟨h5,h⟩:=al h
   cases h
   simp(config:=cS)only[go_sem,eqF h1,eqT h2,eqT h3,eqT h4,eqT h5]
  ·cases h
   simp(config:=cS)only[go_sem,eqF h1,eqF h2]
def jL (a:List (List Int))(b:Int):(Int × Int)→St
 | (d,c)=>⟨[(0,.sl (ab (eLS eI) a)),(3,.lit (.int .i64 d)),(9,.sl (ab (eLS eI) a)),(10,.lit (.int .i64 b)),(11,.lit (.int .i64 c))],[],2⟩
attribute [go_sem] jL
def jM (b:List (List Int))(c:Int):(Nat × Int × (List Int))→St
 | (a,d,e)=>⟨[(6,.ref 1536 1 0 a),(25,.sl (ab (eLS eI) b)),(26,.lit (.int .i64 c)),(27,.lit (.int .i64 d))],[(1536,1,.row true (ab eI e))],2⟩
attribute [go_sem] jM
attribute [go_sem] Tryz.ntmps264 Tryz.results264
theorem sa {v0:List (List Int)}{res:List Int}(h:dY v0=some res):am Tryz.prog 264 [.sl (ab (eLS eI) v0)] [] (.ref 20000 1 0 res.length) [(20000,1,.row true (ab eI res))]:=by
 refine ai (ra:=[.home 2,.trimT 2]) (md:=mdT) hT (hi:=hi00) Tryz.func264 rfl rfl (by decide +kernel) (by simp) ?_
 unfold dY at h
 obtain ⟨q05,l1,h⟩:=ae h
 simp(config:=cS)only[go_sem]
 refine aw (m1:=.mk) (m2:=.mk) [.nf [0,3,9,10,11] []] (jL v0 ((v0.length:Nat):Int)) l1 ?_ ?_
 ·simp(config:=cS)only[go_sem]
 ·intro nb2 sb2 bb2 b2 gb2
  obtain ⟨v3_1,v11_1⟩:=sb2
  unfold cM at b2
  try dsimp only at b2
  obtain ⟨h3,b2⟩|⟨h3,b2⟩:=af b2
  ·obtain ⟨x01,g4,b2⟩:=ae b2
   obtain ⟨h5,h6,h7⟩:=ak g4
   obtain ⟨h8,b2⟩|⟨h8,b2⟩:=af b2
   ·cases b2
   ·cases b2
    simp(config:=cS)only[go_sem,eqT h3,h5,h6,h7,eqF h8]
    refine au gb2 ?_
    simp(config:=cS)only[go_sem]
  ·cases b2
   obtain rfl:=(aj gb2).symm
   try dsimp only at h
   obtain ⟨r02,g10,h⟩:=ae h
   simp(config:=cS)only[go_sem,eqF h3]
   refine ag (uk g10) ?_
   obtain ⟨q04,l11,h⟩:=ae h
   simp(config:=cS)only[go_sem]
   refine aw (m1:=.mk) (m2:=.mk) [.nf [6,25,26,27] [1536]] (jM v0 ((v0.length:Nat):Int)) l11 ?_ ?_
   ·simp(config:=cS)only[go_sem]
   ·intro nb12 sb12 bb12 b12 gb12
    obtain ⟨v6_n_2,v27_2,v6_2⟩:=sb12
    unfold cN at b12
    try dsimp only at b12
    obtain ⟨h13,b12⟩|⟨h13,b12⟩:=af b12
    ·obtain ⟨x03,g14,b12⟩:=ae b12
     obtain ⟨h15,h16,h17⟩:=ak g14
     obtain ⟨h18,b12⟩|⟨h18,b12⟩:=af b12
     ·obtain ⟨h19,b12⟩:=al b12
      obtain ⟨h20,b12⟩:=al b12
      cases b12
      simp(config:=cS)only[go_sem,eqT h13,h15,h16,h17,eqT h18,eqT h19,eqT h20]
      refine au gb12 ?_
      simp(config:=cS)only[go_sem]
     ·obtain ⟨h21,b12⟩:=al b12
      obtain ⟨h22,b12⟩|⟨h22,b12⟩:=af b12
      ·cases b12
       simp(config:=cS)only[go_sem,eqT h13,h15,h16,h17,eqF h18,eqT h21,eqT h22]
       refine au gb12 ?_
       simp(config:=cS)only[go_sem]
      ·obtain ⟨h23,b12⟩:=al b12
       obtain ⟨h24,b12⟩:=al b12
       cases b12
       simp(config:=cS)only[go_sem,eqT h13,h15,h16,h17,eqF h18,eqT h21,eqF h22,eqT h23,eqT h24]
       refine au gb12 ?_
       simp(config:=cS)only[go_sem]
    ·cases b12
     obtain rfl:=(aj gb12).symm
     try dsimp only at h
     obtain ⟨h26,h⟩:=al h
     obtain ⟨h27,h⟩:=al h
     cases h
     simp(config:=cS)only[go_sem,eqF h13,eqT h26,eqT h27]
attribute [go_sem] Tryz.ntmps333 Tryz.results333
theorem Cu {v0 res:Int}(h:pv v0=some res):am Tryz.prog 333 [.lit (.int .u64 v0)] [] (.lit (.int .i64 res)) []:=by
 refine ai (ra:=[]) (md:=mdT) hT (hi:=hi00) Tryz.func333 rfl rfl (by decide +kernel) (by simp) ?_
 unfold pv at h
 obtain ⟨h1,h⟩|⟨h1,h⟩:=af h
 ·obtain ⟨h2,h⟩|⟨h2,h⟩:=af h
  ·obtain ⟨h3,h⟩|⟨h3,h⟩:=af h
   ·obtain ⟨c1001,g4,h⟩:=ae h
    obtain ⟨h5,h6,h7⟩:=fN g4
    cases h
    simp(config:=cS)only[go_sem,eqT h1,eqT h2,eqT h3,h5,h6,h7]
   ·obtain ⟨c1002,g8,h⟩:=ae h
    obtain ⟨h9,h10,h11⟩:=fN g8
    cases h
    simp(config:=cS)only[go_sem,eqT h1,eqT h2,eqF h3,h9,h10,h11]
  ·obtain ⟨h12,h⟩|⟨h12,h⟩:=af h
   ·obtain ⟨c1003,g13,h⟩:=ae h
    obtain ⟨h14,h15,h16⟩:=fN g13
    cases h
    simp(config:=cS)only[go_sem,eqT h1,eqF h2,eqT h12,h14,h15,h16]
   ·obtain ⟨c1004,g17,h⟩:=ae h
    obtain ⟨h18,h19,h20⟩:=fN g17
    cases h
    simp(config:=cS)only[go_sem,eqT h1,eqF h2,eqF h12,h18,h19,h20]
 ·obtain ⟨h21,h⟩|⟨h21,h⟩:=af h
  ·obtain ⟨h22,h⟩|⟨h22,h⟩:=af h
   ·obtain ⟨c1005,g23,h⟩:=ae h
    obtain ⟨h24,h25,h26⟩:=fN g23
    cases h
    simp(config:=cS)only[go_sem,eqF h1,eqT h21,eqT h22,h24,h25,h26]
   ·obtain ⟨c1006,g27,h⟩:=ae h
    obtain ⟨h28,h29,h30⟩:=fN g27
    cases h
    simp(config:=cS)only[go_sem,eqF h1,eqT h21,eqF h22,h28,h29,h30]
  ·obtain ⟨h31,h⟩|⟨h31,h⟩:=af h
   ·obtain ⟨c1007,g32,h⟩:=ae h
    obtain ⟨h33,h34,h35⟩:=fN g32
    cases h
    simp(config:=cS)only[go_sem,eqF h1,eqF h21,eqT h31,h33,h34,h35]
   ·obtain ⟨c1008,g36,h⟩:=ae h
    obtain ⟨h37,h38,h39⟩:=fN g36
    cases h
    simp(config:=cS)only[go_sem,eqF h1,eqF h21,eqF h31,h37,h38,h39]
attribute [go_sem] Tryz.ntmps304 Tryz.results304
theorem Fw {v0 res:Int}(h:oS v0=some res):am Tryz.prog 304 [.lit (.int .u64 v0)] [] (.lit (.int .i64 res)) []:=by
 refine ai (ra:=[]) (md:=mdT) hT (hi:=hi00) Tryz.func304 rfl rfl (by decide +kernel) (by simp) ?_
 unfold oS at h
 obtain ⟨r01,g1,h⟩:=ae h
 simp(config:=cS)only[go_sem]
 refine ag (Cu g1) ?_
 cases h
 simp(config:=cS)only[go_sem]
attribute [go_sem] Tryz.ntmps350 Tryz.results350
theorem pV {v0:Int}{res:Bool}(h:gT v0=some res):am Tryz.prog 350 [.lit (.int .i64 v0)] [] (.lit (.bool res)) []:=by
 refine ai (ra:=[]) (md:=mdT) hT (hi:=hi00) Tryz.func350 rfl rfl (by decide +kernel) (by simp) ?_
 unfold gT at h
 cases h
 simp(config:=cS)only[go_sem]
attribute [go_sem] Tryz.ntmps329 Tryz.results329
theorem yT {v0 v1:Int}{res:Bool}(h:iE v0 v1=some res):am Tryz.prog 329 [.lit (.int .i64 v0),.lit (.int .i64 v1)] [] (.lit (.bool res)) []:=by
 refine ai (ra:=[]) (md:=mdT) hT (hi:=hi00) Tryz.func329 rfl rfl (by decide +kernel) (by simp) ?_
 unfold iE at h
 obtain ⟨r01,g1,h⟩:=ae h
 simp(config:=cS)only[go_sem]
 refine ag (pV g1) ?_
 obtain ⟨h2,h⟩|⟨h2,h⟩:=af h
 ·obtain ⟨r02,g3,h⟩:=ae h
  simp(config:=cS)only[go_sem,eZt h2]
  refine ag (pV g3) ?_
  obtain ⟨h4,h⟩|⟨h4,h⟩:=af h
  ·cases h
   simp(config:=cS)only[go_sem,eZt h2,eZt h4]
  ·cases h
   simp(config:=cS)only[go_sem,eZt h2,eZf h4]
 ·cases h
  simp(config:=cS)only[go_sem,eZf h2]
def dK (a:Bool)(c d e:Int):(Int × (List Int))→St
 | (f,b)=>⟨[(0,.ref 10000 0 0 b.length),(1,.lit (.int .i64 c)),(2,.lit (.int .i64 d)),(6,.lit (.int .i64 e)),(7,.lit (.int .i64 f))],[(10000,0,.row a (ab eI b))],2⟩
attribute [go_sem] dK
def dL (a:Bool)(c d:Int):(Int × (List Int))→St
 | (e,b)=>⟨[(0,.ref 10000 0 0 b.length),(1,.lit (.int .i64 c)),(2,.lit (.int .i64 d)),(6,.lit (.int .i64 e))],[(10000,0,.row a (ab eI b))],2⟩
attribute [go_sem] dL
@[go_sem] def hi323_6:DT:=.i2 0 (.i2 1 (.i2 2 (.i2 3 (.i2 4 (.i2 5 (.i2 6 (.i2 7 (.i2 8 (.i2 9 (.i2 10 (.i2 11 (.i2 12 (.i2 13 (.i2 14 (.i2 15 (.i2 16 (.i2 17 .nil)))))))))))))))))
@[go_sem] def hi323_4:DT:=.i2 0 (.i2 1 (.i2 2 (.i2 3 (.i2 4 (.i2 5 (.i2 6 (.i2 7 (.i2 8 (.i2 9 (.i2 10 (.i2 11 (.i2 12 (.i2 13 (.i2 14 .nil))))))))))))))
def xy:Hint where
 acts:=fun _=>[]
 draws:=fun
  | 4=>⟨hi323_4,[[],[],[0,1],[0,1,2],[0,1,2,3],[0,1,2,3],.range 6,.range 7,[0,1,2,3],[0,1,2,3],[0,1,2,3,9],[0,1,2,3,8,9,10],[0,1,2,3,8,9,10,11],.range 13,.range 14],.range 15⟩
  | 6=>⟨hi323_6,[[],[],[],[],[3],[],[],[6],[5,6,7],[5,6,7,8],[],[],[10,11],[10,11,12],[0,1,5,6,7,8,9,10,11,12,13],[0,1,5,6,7,8,9,10,11,12,13,14],.range 16,.range 17],[0,1,13,14,15,2,3,4,5,6,7,8,9,10,11,12,16,17]⟩
  | _=>⟨.nil,[],[]⟩
theorem LS (i:Nat):xy.acts i=[]:=rfl
theorem LT (i:Nat):xy.views i=none:=rfl
attribute [go_sem] LS LT Tryz.ntmps323 Tryz.results323
@[go_sem] theorem NW:(xy.draws 4).order=hi323_4:=rfl
@[go_sem] theorem NX:(xy.draws 6).order=hi323_6:=rfl
theorem kT {v0:List Int}{v1 v2:Int}{zb0:Bool}{res:List Int}(h:bi v0 v1 v2=some res):am Tryz.prog 323 [.ref 10000 0 0 v0.length,.lit (.int .i64 v1),.lit (.int .i64 v2)] [(10000,0,.row zb0 (ab eI v0))] (.tup []) [(10000,0,.row zb0 (ab eI res))]:=by
 refine ai (ra:=[]) (md:=mdT) hT (hi:=xy) Tryz.func323 rfl rfl (by decide +kernel) (by simp) ?_
 unfold bi at h
 obtain ⟨q06,l1,h⟩:=ae h
 simp(config:=cS)only[go_sem]
 refine aw (m1:=.mk) (m2:=.mk) [.nf [0,1,2,6] [10000]] (dL zb0 v1 v2) l1 ?_ ?_
 ·simp(config:=cS)only[go_sem]
 ·intro nb2 sb2 bb2 b2 gb2
  obtain ⟨v6_1,v0_1⟩:=sb2
  unfold aP at b2
  try dsimp only at b2
  obtain ⟨h3,b2⟩|⟨h3,b2⟩:=af b2
  ·obtain ⟨q05,l4,b2⟩:=ae b2
   simp(config:=cS)only[go_sem,eqT h3]
   refine aw (m1:=.mk) (m2:=.mk) [.nf [0,1,2,6,7] [10000]] (dK zb0 v1 v2 v6_1) l4 ?_ ?_
   ·simp(config:=cS)only[go_sem,eqT h3]
   ·intro nb5 sb5 bb5 b5 gb5
    obtain ⟨v7_2,v0_2⟩:=sb5
    unfold aL at b5
    try dsimp only at b5
    obtain ⟨h6,b5⟩|⟨h6,b5⟩:=af b5
    ·obtain ⟨x01,g7,b5⟩:=ae b5
     obtain ⟨h8,h9,h10⟩:=ak g7
     obtain ⟨x02,g11,b5⟩:=ae b5
     obtain ⟨h12,h13,h14⟩:=ak g11
     obtain ⟨r03,g15,b5⟩:=ae b5
     simp(config:=cS)only[go_sem,eqT h3,eqT h6,h8,h9,h10,h12,h13,h14]
     refine ag (yT g15) ?_
     obtain ⟨h16,b5⟩|⟨h16,b5⟩:=af b5
     ·obtain ⟨x04,g17,b5⟩:=ae b5
      obtain ⟨h18,h19,h20⟩:=ak g17
      cases b5
      simp(config:=cS)only[go_sem,eqT h3,eqT h6,h8,h9,h10,h12,h13,h14,eZt h16,h18,h19,h20]
      refine au gb5 ?_
      simp(config:=cS)only[go_sem,eqT h3,eqT h6,h8,h9,h10,h12,h13,h14,eZt h16,h18,h19,h20]
     ·cases b5
      obtain rfl:=(aj gb5).symm
      try dsimp only at b2
      cases b2
      simp(config:=cS)only[go_sem,eqT h3,eqT h6,h8,h9,h10,h12,h13,h14,eZf h16]
      refine au gb2 ?_
      simp(config:=cS)only[go_sem,eqT h3,eqT h6,h8,h9,h10,h12,h13,h14,eZf h16]
    ·cases b5
     obtain rfl:=(aj gb5).symm
     try dsimp only at b2
     cases b2
     simp(config:=cS)only[go_sem,eqT h3,eqF h6]
     refine au gb2 ?_
     simp(config:=cS)only[go_sem,eqT h3,eqF h6]
  ·cases b2
   obtain rfl:=(aj gb2).symm
   try dsimp only at h
   cases h
   simp(config:=cS)only[go_sem,eqF h3]
def fP (a:Bool)(c d e:Int)(b:List Int)(_:Unit):St:=⟨[(0,.ref 10000 0 0 b.length),(1,.lit (.int .i64 c)),(2,.lit (.int .i64 d)),(3,.lit (.int .i64 e)),(8,.lit (.bool true)),(9,.lit (.bool true))],[(10000,0,.row a (ab eI b))],2⟩
attribute [go_sem] fP
@[go_sem] def hi303_17:DT:=.i2 0 (.i2 1 (.i2 2 (.i2 3 (.i2 4 (.i2 5 (.i2 6 (.i2 7 (.i2 8 (.i2 9 (.i2 10 (.i2 11 (.i2 12 (.i2 13 (.i2 14 .nil))))))))))))))
def BD:Hint where
 acts:=fun _=>[]
 draws:=fun
  | 17=>⟨hi303_17,[[],[0],[0,1],[0,1,2],[0,1,2],[0,1,2,4],.range 6,.range 7,[0,1,2],[0,1,2],[0,1,2,8,9],[0,1,2,8,9,10],.range 12,.range 13,.range 14],.range 15⟩
  | _=>⟨.nil,[],[]⟩
theorem LU (i:Nat):BD.acts i=[]:=rfl
theorem LV (i:Nat):BD.views i=none:=rfl
attribute [go_sem] LU LV Tryz.ntmps303 Tryz.results303
@[go_sem] theorem NI:(BD.draws 17).order=hi303_17:=rfl
theorem nY {v0:List Int}{v1 v2 v3:Int}{zb0:Bool}{res:List Int}(h:bL v0 v1 v2 v3=some res):am Tryz.prog 303 [.ref 10000 0 0 v0.length,.lit (.int .i64 v1),.lit (.int .i64 v2),.lit (.int .i64 v3)] [(10000,0,.row zb0 (ab eI v0))] (.tup []) [(10000,0,.row zb0 (ab eI res))]:=by
 refine ai (ra:=[]) (md:=mdT) hT (hi:=BD) Tryz.func303 rfl rfl (by decide +kernel) (by simp) ?_
 unfold bL at h
 obtain ⟨q02,l1,h⟩:=ae h
 simp(config:=cS)only[go_sem]
 refine aw (m1:=.mk) (m2:=.mk) [.nf [0,1,2,3,8,9] [10000]] (fP zb0 v1 v2 v3 v0) l1 ?_ ?_
 ·simp(config:=cS)only[go_sem]
 ·intro nb2 sb2 bb2 b2 gb2
  unfold dw at b2
  try dsimp only at b2
  obtain ⟨h3,b2⟩|⟨h3,b2⟩:=af b2
  ·obtain ⟨r01,g4,b2⟩:=ae b2
   simp(config:=cS)only[go_sem,eqT h3]
   refine ag (kT g4) ?_
   cases b2
   obtain rfl:=(aj gb2).symm
   try dsimp only at h
   cases h
   simp(config:=cS)only[go_sem]
  ·cases b2
attribute [go_sem] Tryz.ntmps266 Tryz.results266
theorem oG {v0:List Int}{zb0:Bool}{res:List Int}(h:bD v0=some res):am Tryz.prog 266 [.ref 10000 0 0 v0.length] [(10000,0,.row zb0 (ab eI v0))] (.tup []) [(10000,0,.row zb0 (ab eI res))]:=by
 refine ai (ra:=[]) (md:=mdT) hT (hi:=hi00) Tryz.func266 rfl rfl (by decide +kernel) (by simp) ?_
 unfold bD at h
 obtain ⟨r01,g1,h⟩:=ae h
 simp(config:=cS)only[go_sem]
 refine ag (Fw g1) ?_
 obtain ⟨r02,g2,h⟩:=ae h
 simp(config:=cS)only[go_sem]
 refine ag (nY g2) ?_
 cases h
 simp(config:=cS)only[go_sem]
def mC (g:Int)(h:List GNode)(i:List GTie)(j d:Int)(e f b:List Int):(Int × (List Int) × (List Int))→St
 | (k,a,c)=>⟨[(2,.ptr 128 1 0 0),(3,.ptr 192 1 0 0),(5,.ref 383 1 0 a.length),(6,.ref 447 1 0 c.length),(20,.ref 1280 1 0 b.length),(21,.lit (.int .i64 g)),(22,.lit (.int .i64 k))],[(128,1,.var [.sl (ab GNode.encS h),.sl (ab GTie.enc i),.lit (.int .i64 j)]),(192,1,.var [.lit (.int .i64 d),.sl (ab eI e),.sl (ab eI f)]),(383,1,.row true (ab eI a)),(447,1,.row true (ab eI c)),(1280,1,.row true (ab eI b))],2⟩
attribute [go_sem] mC
def mD (a b:List Int):(Int × (List (List Int)))→St
 | (d,c)=>⟨[(5,.ref 383 1 0 a.length),(6,.ref 447 1 0 b.length),(10,.ref 703 1 0 c.length),(11,.lit (.int .i64 d))],[(383,1,.tree (ab eI a)),(447,1,.row true (ab eI b)),(703,1,.row true (ab (eLO eI) c))],2⟩
attribute [go_sem] mD
@[go_sem] def hi192_7:DT:=.i2 0 (.i2 1 (.i2 2 (.i2 3 (.i2 4 (.i2 5 (.i2 6 (.i2 7 (.i2 8 (.i2 9 (.i2 10 (.i2 11 (.i2 12 (.i2 13 .nil)))))))))))))
def BE:Hint where
 acts:=fun _=>[]
 draws:=fun
  | 7=>⟨hi192_7,[[],[0],[],[2],[],[4],[],[4,5,6],[4,5,6,7],[4,5,6,7,8],[2,3,4,5,6,7,8,9],[2,3,4,5,6,7,8,9,10],.range 12,.range 13],.range 14⟩
  | _=>⟨.nil,[],[]⟩
theorem LW (i:Nat):BE.acts i=[]:=rfl
theorem LX (i:Nat):BE.views i=none:=rfl
attribute [go_sem] LW LX Tryz.ntmps192 Tryz.results192
@[go_sem] theorem NY:(BE.draws 7).order=hi192_7:=rfl
theorem yU {s:GShow}{v1:GState}{res:List (List Int)}(h:iF s v1=some res):am Tryz.prog 192 [.agg (GShow.encS s),.agg (GState.encS v1)] [] (.ref 20000 1 0 res.length) [(20000,1,.row true (ab (eLO eI) res))]:=by
 refine ai (ra:=[.home 4]) (md:=mdT) hT (hi:=BE) Tryz.func192 rfl rfl (by decide +kernel) (by simp) ?_
 unfold iF at h
 obtain ⟨h1,h⟩|⟨h1,h⟩:=af h
 ·cases h
  simp(config:=cS)only[go_sem,eqT h1]
 ·obtain ⟨r01,g2,h⟩:=ae h
  simp(config:=cS)only[go_sem,eqF h1]
  refine ag (AK g2) ?_
  obtain ⟨q09,l3,h⟩:=ae h
  simp(config:=cS)only[go_sem]
  refine aw (m1:=.mk) (m2:=.mk) [.home 5,.home 6,.nf [2,3,5,6,20,21,22] [128,192,383,447,1280]] (mC ((r01.length:Nat):Int) s.nodes s.ties s.horizon v1.now v1.times v1.values r01) l3 ?_ ?_
  ·simp(config:=cS)only[go_sem]
  ·intro nb4 sb4 bb4 b4 gb4
   obtain ⟨v22_1,must_1,may_1⟩:=sb4
   unfold fy at b4
   try dsimp only at b4
   obtain ⟨h5,b4⟩|⟨h5,b4⟩:=af b4
   ·obtain ⟨x02,g6,b4⟩:=ae b4
    obtain ⟨h7,h8,h9⟩:=ak g6
    obtain ⟨x03,g10,b4⟩:=ae b4
    obtain ⟨h11,h12,h13⟩:=ak g10
    obtain ⟨x04,g14,b4⟩:=ae b4
    obtain ⟨h15,h16,h17⟩:=ak g14
    obtain ⟨h18,b4⟩|⟨h18,b4⟩:=af b4
    ·obtain ⟨h19,b4⟩:=al b4
     obtain ⟨h20,b4⟩:=al b4
     cases b4
     simp(config:=cS)only[go_sem,eqT h5,h7,h8,h9,h11,h12,h13,h15,h16,h17,eqT h18,eqT h19,eqT h20]
     refine au gb4 ?_
     simp(config:=cS)only[go_sem]
    ·obtain ⟨h21,b4⟩|⟨h21,b4⟩:=af b4
     ·obtain ⟨h22,b4⟩:=al b4
      obtain ⟨h23,b4⟩:=al b4
      cases b4
      simp(config:=cS)only[go_sem,eqT h5,h7,h8,h9,h11,h12,h13,h15,h16,h17,eqF h18,eqT h21,eqT h22,eqT h23]
      refine au gb4 ?_
      simp(config:=cS)only[go_sem]
     ·cases b4
      simp(config:=cS)only[go_sem,eqT h5,h7,h8,h9,h11,h12,h13,h15,h16,h17,eqF h18,eqF h21]
      refine au gb4 ?_
      simp(config:=cS)only[go_sem]
   ·cases b4
    obtain rfl:=(aj gb4).symm
    try dsimp only at h
    obtain ⟨q08,l25,h⟩:=ae h
    simp(config:=cS)only[go_sem,eqF h5]
    refine aw (m1:=.mk) (m2:=.mk) [.home 10,.freeze [383],.nf [5,6,10,11] [383,447,703]] (mD must_1 may_1) l25 ?_ ?_
    ·simp(config:=cS)only[go_sem]
    ·intro nb26 sb26 bb26 b26 gb26
     obtain ⟨set_2,out_2⟩:=sb26
     unfold fz at b26
     try dsimp only at b26
     obtain ⟨h27,b26⟩:=al b26
     obtain ⟨h28,b26⟩|⟨h28,b26⟩:=af b26
     ·obtain ⟨r05,g29,b26⟩:=ae b26
      simp(config:=cS)only[go_sem,eqF h27,eqT h28]
      refine ag (qJ g29) ?_
      obtain ⟨r06,g30,b26⟩:=ae b26
      simp(config:=cS)only[go_sem]
      refine ag (sa g30) ?_
      obtain ⟨r07,g31,b26⟩:=ae b26
      simp(config:=cS)only[go_sem]
      refine ag (oG g31) ?_
      obtain ⟨h32,b26⟩:=al b26
      obtain ⟨h33,b26⟩:=al b26
      obtain ⟨h34,b26⟩:=al b26
      cases b26
      simp(config:=cS)only[go_sem,h32.symm,eqT h33,eqT h34]
      refine au gb26 ?_
      simp(config:=cS)only[go_sem]
     ·cases b26
      obtain rfl:=(aj gb26).symm
      try dsimp only at h
      cases h
      simp(config:=cS)only[go_sem,eqF h27,eqF h28]
def ib (c:List (List Int))(a:Nat)(b:List AV)(d e:Int):St:=⟨[(0,.sl (ab (eLS eI) c)),(1,.fn a b),(7,.lit (.int .i64 d)),(8,.lit (.int .i64 e))],[],2⟩
attribute [go_sem] ib
attribute [go_sem] Tryz.ntmps299 Tryz.results299
theorem pF {v0:List (List Int)}{v1:(List Int)→Option Bool}{f_v1:Nat}{k_v1:List AV}(hp_v1:∀ y0 r,v1 y0=some r→am Tryz.prog f_v1 ([.sl (ab eI y0)]++k_v1) [] (.lit (.bool r)) [])(hc_v1:KC k_v1)(hm_v1:∀ a,mdT f_v1 a=⟨[],false⟩)(hk_v1:spf f_v1=false){res:Int}(h:cF v0 v1=some res):am Tryz.prog 299 [.sl (ab (eLS eI) v0),.fn f_v1 k_v1] [] (.lit (.int .i64 res)) []:=by
 refine ai (ra:=[]) (md:=mdT) hT (hi:=hi00) Tryz.func299 rfl rfl (by decide +kernel) (by simp) ?_
 unfold cF at h
 obtain ⟨q03,l1,h⟩:=ae h
 simp(config:=cS)only[go_sem,hc_v1.1,hc_v1.2,hm_v1,hk_v1]
 refine aw (m1:=.mk) (m2:=.mk) [.nf [0,1,7,8] []] (ib v0 f_v1 k_v1 ((v0.length:Nat):Int)) l1 ?_ ?_
 ·simp(config:=cS)only[go_sem,hc_v1.1,hc_v1.2,hm_v1,hk_v1]
 ·intro nb2 v8_1 bb2 b2 gb2
  unfold bq at b2
  try dsimp only at b2
  obtain ⟨h3,b2⟩|⟨h3,b2⟩:=af b2
  ·obtain ⟨x01,g4,b2⟩:=ae b2
   obtain ⟨h5,h6,h7⟩:=ak g4
   obtain ⟨r02,g8,b2⟩:=ae b2
   simp(config:=cS)only[go_sem,hc_v1.1,hc_v1.2,hm_v1,hk_v1,eqT h3,h5,h6,h7]
   refine ag (hp_v1 _ _ g8) ?_
   obtain ⟨h9,b2⟩|⟨h9,b2⟩:=af b2
   ·cases b2
    obtain rfl:=(aj gb2).symm
    try dsimp only at h
    cases h
    simp(config:=cS)only[go_sem,hc_v1.1,hc_v1.2,hm_v1,hk_v1,eqT h3,h5,h6,h7,eZt h9]
   ·cases b2
    simp(config:=cS)only[go_sem,hc_v1.1,hc_v1.2,hm_v1,hk_v1,eqT h3,h5,h6,h7,eZf h9]
    refine au gb2 ?_
    simp(config:=cS)only[go_sem,hc_v1.1,hc_v1.2,hm_v1,hk_v1,eqT h3,h5,h6,h7,eZf h9]
  ·cases b2
   obtain rfl:=(aj gb2).symm
   try dsimp only at h
   cases h
   simp(config:=cS)only[go_sem,hc_v1.1,hc_v1.2,hm_v1,hk_v1,eqF h3]
attribute [go_sem] Tryz.ntmps262 Tryz.results262
theorem oC {v0:List (List Int)}{v1:(List Int)→Option Bool}{f_v1:Nat}{k_v1:List AV}(hp_v1:∀ y0 r,v1 y0=some r→am Tryz.prog f_v1 ([.sl (ab eI y0)]++k_v1) [] (.lit (.bool r)) [])(hc_v1:KC k_v1)(hm_v1:∀ a,mdT f_v1 a=⟨[],false⟩)(hk_v1:spf f_v1=false){res:Bool}(h:cQ v0 v1=some res):am Tryz.prog 262 [.sl (ab (eLS eI) v0),.fn f_v1 k_v1] [] (.lit (.bool res)) []:=by
 refine ai (ra:=[]) (md:=mdT) hT (hi:=hi00) Tryz.func262 rfl rfl (by decide +kernel) (by simp) ?_
 unfold cQ at h
 obtain ⟨r01,g1,h⟩:=ae h
 simp(config:=cS)only[go_sem,hc_v1.1,hc_v1.2,hm_v1,hk_v1]
 refine ag (pF hp_v1 hc_v1 hm_v1 hk_v1 g1) ?_
 cases h
 simp(config:=cS)only[go_sem,hc_v1.1,hc_v1.2,hm_v1,hk_v1]
attribute [go_sem] Tryz.ntmps263 Tryz.results263
theorem AL {y v1:List Int}{res:Bool}(h:lk y v1=some res):am Tryz.prog 263 [.sl (ab eI y),.loc [.sl (ab eI v1)]] [] (.lit (.bool res)) []:=by
 refine ai (ra:=[]) (md:=mdT) hT (hi:=hi00) Tryz.func263 rfl rfl (by decide +kernel) (by simp) ?_
 unfold lk at h
 obtain ⟨r01,g1,h⟩:=ae h
 simp(config:=cS)only[go_sem]
 refine ag (eL g1) ?_
 cases h
 simp(config:=cS)only[go_sem]
attribute [go_sem] Tryz.ntmps191 Tryz.results191
theorem xz {list:List (List Int)}{v1:List Int}{res:Bool}(h:ko list v1=some res):am Tryz.prog 191 [.sl (ab (eLS eI) list),.sl (ab eI v1)] [] (.lit (.bool res)) []:=by
 refine ai (ra:=[]) (md:=mdT) hT (hi:=hi00) Tryz.func191 rfl rfl (by decide +kernel) (by simp) ?_
 unfold ko at h
 obtain ⟨r01,g1,h⟩:=ae h
 simp(config:=cS)only[go_sem]
 refine ag (oC (by exact fun _ _ hr=>AL hr) (by refine ⟨fun _=>?_,fun _=>?_⟩ <;> simp only [go_sem]) (fun _=>rfl) rfl g1) ?_
 cases h
 simp(config:=cS)only[go_sem]
attribute [go_sem] Tryz.ntmps57 Tryz.results57
theorem nZ {v0 res:List Int}(h:dl v0=some res):am Tryz.prog 57 [.sl (ab eI v0)] [] (.ref 20000 1 0 res.length) [(20000,1,.row true (ab eI res))]:=by
 refine ai (ra:=[.home 2]) (md:=mdT) hT (hi:=hi00) Tryz.func57 rfl rfl (by decide +kernel) (by simp) ?_
 unfold dl at h
 obtain ⟨h1,h3,h2⟩|⟨h1,h3⟩:=Gt h
 ·cases h3
  simp(config:=cS)only[go_sem,h1]
 ·obtain ⟨h4,h3⟩:=al h3
  obtain ⟨h5,h3⟩:=al h3
  cases h3
  simp(config:=cS)only[go_sem,EZ h1,eqT h4,eqT h5]
@[go_sem] def hi179_1:DT:=.i1 0 (.i1 1 (.i2 2 (.i2 3 (.i1 5 (.i1 6 (.i0 4 [0,1,5,6] (.i0 7 [0,1] (.i2 8 (.i2 9 .nil)))))))))
def BF:Hint where
 acts:=fun _=>[]
 draws:=fun
  | 1=>⟨hi179_1,[[],[0],[],[2],[2,3],[],[5],[2,3,4,5,6],.range 8,.range 9],.range 10⟩
  | _=>⟨.nil,[],[]⟩
theorem LY (i:Nat):BF.acts i=[]:=rfl
theorem LZ (i:Nat):BF.views i=none:=rfl
attribute [go_sem] LY LZ Tryz.ntmps179 Tryz.results179
@[go_sem] theorem NZ:(BF.draws 1).order=hi179_1:=rfl
theorem lp {v0 res:GState}(h:cV v0=some res):am Tryz.prog 179 [.agg (GState.encS v0)] [] (.agg [.lit (.int .i64 res.now),.ref 20000 1 0 res.times.length,.ref 20001 1 0 res.values.length]) [(20000,1,.row true (ab eI res.times)),(20001,1,.row true (ab eI res.values))]:=by
 refine ai (ra:=[.homeCell 128 1,.homeCell 128 2]) (md:=mdT) hT (hi:=BF) Tryz.func179 rfl rfl (by decide +kernel) (by simp) ?_
 unfold cV at h
 obtain ⟨r01,g1,h⟩:=ae h
 simp(config:=cS)only[go_sem]
 refine ag (nZ g1) ?_
 obtain ⟨r02,g2,h⟩:=ae h
 simp(config:=cS)only[go_sem]
 refine ag (nZ g2) ?_
 cases h
 simp(config:=cS)only[go_sem]
def oa (g:List Int)(h:Int)(i:List GNode)(j:List GTie)(k d:Int)(e f:List Int)(c:Int)(a:List Int):(Int × (List Int))→St
 | (l,b)=>⟨[(3,.ptr 192 1 0 0),(4,.ptr 256 1 0 0),(6,.ptr 384 1 0 0),(7,.ptr 448 1 0 0),(12,.sl (ab eI g)),(13,.lit (.int .i64 h)),(14,.lit (.int .i64 l))],[(192,1,.var [.sl (ab GNode.encS i),.sl (ab GTie.enc j),.lit (.int .i64 k)]),(256,1,.var [.lit (.int .i64 d),.sl (ab eI e),.sl (ab eI f)]),(384,1,.var [.lit (.int .i64 0),.lit (.slice none 0 0),.lit (.slice none 0 0)]),(448,1,.var [.lit (.int .i64 c),.ref 704 1 0 b.length,.ref 705 1 0 a.length]),(704,1,.row true (ab eI b)),(705,1,.row true (ab eI a))],2⟩
attribute [go_sem] oa
@[go_sem] def hi194_5:DT:=.i2 0 (.i2 1 (.i2 2 (.i2 3 (.i2 4 (.i2 5 (.i2 6 (.i2 7 (.i2 8 (.i2 9 (.i2 10 (.i2 11 .nil)))))))))))
def BG:Hint where
 acts:=fun _=>[]
 draws:=fun
  | 5=>⟨hi194_5,[[],[0],[],[2],[],[2,3,4],[2,3,4,5],[2,3,4,5,6],[],[8],.range 10,.range 11],.range 12⟩
  | _=>⟨.nil,[],[]⟩
theorem Ma (i:Nat):BG.acts i=[]:=rfl
theorem Mb (i:Nat):BG.views i=none:=rfl
attribute [go_sem] Ma Mb Tryz.ntmps194 Tryz.results194
@[go_sem] theorem Oa:(BG.draws 5).order=hi194_5:=rfl
theorem Cv {s:GShow}{v1:GState}{ties:List Int}{res:GState}(h:kb s v1 ties=some res):am Tryz.prog 194 [.agg (GShow.encS s),.agg (GState.encS v1),.sl (ab eI ties)] [] (.agg [.lit (.int .i64 res.now),.ref 20000 1 0 res.times.length,.ref 20001 1 0 res.values.length]) [(20000,1,.row true (ab eI res.times)),(20001,1,.row true (ab eI res.values))]:=by
 refine ai (ra:=[.homeCell 384 1,.homeCell 384 2]) (md:=mdT) hT (hi:=BG) Tryz.func194 rfl rfl (by decide +kernel) (by simp) ?_
 unfold kb at h
 obtain ⟨r01,g1,h⟩:=ae h
 simp(config:=cS)only[go_sem]
 refine ag (lp g1) ?_
 obtain ⟨q05,l2,h⟩:=ae h
 simp(config:=cS)only[go_sem]
 refine aw (m1:=.mk) (m2:=.mk) [.nf [3,4,6,7,12,13,14] [192,256,384,448,704,705]] (oa ties ((ties.length:Nat):Int) s.nodes s.ties s.horizon v1.now v1.times v1.values r01.now r01.values) l2 ?_ ?_
 ·simp(config:=cS)only[go_sem]
 ·intro nb3 sb3 bb3 b3 gb3
  obtain ⟨v14_1,h704_1⟩:=sb3
  unfold gU at b3
  try dsimp only at b3
  obtain ⟨h4,b3⟩|⟨h4,b3⟩:=af b3
  ·obtain ⟨x02,g5,b3⟩:=ae b3
   obtain ⟨h6,h7,h8⟩:=ak g5
   obtain ⟨x03,g9,b3⟩:=ae b3
   obtain ⟨h10,h11,h12⟩:=ak g9
   obtain ⟨x04,g13,b3⟩:=ae b3
   obtain ⟨h14,h15,h16⟩:=ak g13
   cases b3
   simp(config:=cS)only[go_sem,eqT h4,h6,h7,h8,h10,h11,h12,h14,h15,h16]
   refine au gb3 ?_
   simp(config:=cS)only[go_sem]
  ·cases b3
   obtain rfl:=(aj gb3).symm
   try dsimp only at h
   cases h
   simp(config:=cS)only[go_sem,eqF h4]
attribute [go_sem] Tryz.ntmps351 Tryz.results351
theorem ul {t:GTie}{node:Int}{res:Bool}(h:ij t node=some res):am Tryz.prog 351 [.agg (GTie.enc t),.loc [.lit (.int .i64 node)]] [] (.lit (.bool res)) []:=by
 refine ai (ra:=[]) (md:=mdT) hT (hi:=hi00) Tryz.func351 rfl rfl (by decide +kernel) (by simp) ?_
 unfold ij at h
 obtain ⟨h1,h⟩|⟨h1,h⟩:=af h
 ·cases h
  simp(config:=cS)only[go_sem,eZt h1]
 ·cases h
  simp(config:=cS)only[go_sem,eZf h1]
attribute [go_sem] Tryz.ntmps334 Tryz.results334
theorem yV {s:GShow}{node res:Int}(h:iG s node=some res):am Tryz.prog 334 [.agg (GShow.encS s),.lit (.int .i64 node)] [] (.lit (.int .i64 res)) []:=by
 refine ai (ra:=[]) (md:=mdT) hT (hi:=hi00) Tryz.func334 rfl rfl (by decide +kernel) (by simp) ?_
 unfold iG at h
 obtain ⟨r01,g1,h⟩:=ae h
 simp(config:=cS)only[go_sem]
 refine ag (kR (by exact fun _ _ hr=>ul hr) (by refine ⟨fun _=>?_,fun _=>?_⟩ <;> simp only [go_sem]) (fun _=>rfl) rfl g1) ?_
 cases h
 simp(config:=cS)only[go_sem]
def na (b:List GNode)(c:List GTie)(d:Int):(Int × (List Int))→St
 | (i,a)=>⟨[(1,.ptr 64 1 0 0),(3,.ref 255 1 0 a.length),(4,.lit (.int .i64 i))],[(64,1,.var [.sl (ab GNode.encS b),.sl (ab GTie.enc c),.lit (.int .i64 d)]),(255,1,.row true (ab eI a))],2⟩
attribute [go_sem] na
attribute [go_sem] Tryz.ntmps305 Tryz.results305
theorem AM {s:GShow}{res:List Int}(h:jv s=some res):am Tryz.prog 305 [.agg (GShow.encS s)] [] (.ref 20000 1 0 res.length) [(20000,1,.row true (ab eI res))]:=by
 refine ai (ra:=[.home 2]) (md:=mdT) hT (hi:=hi00) Tryz.func305 rfl rfl (by decide +kernel) (by simp) ?_
 unfold jv at h
 obtain ⟨q02,l1,h⟩:=ae h
 simp(config:=cS)only[go_sem]
 refine aw (m1:=.mk) (m2:=.mk) [.home 3,.nf [1,3,4] [64,255]] (na s.nodes s.ties s.horizon) l1 ?_ ?_
 ·simp(config:=cS)only[go_sem]
 ·intro nb2 sb2 bb2 b2 gb2
  obtain ⟨i_1,out_1⟩:=sb2
  unfold gr at b2
  try dsimp only at b2
  obtain ⟨h3,b2⟩|⟨h3,b2⟩:=af b2
  ·obtain ⟨r01,g4,b2⟩:=ae b2
   simp(config:=cS)only[go_sem,eqT h3]
   refine ag (yV g4) ?_
   obtain ⟨h5,b2⟩|⟨h5,b2⟩:=af b2
   ·obtain ⟨h6,b2⟩:=al b2
    obtain ⟨h7,b2⟩:=al b2
    cases b2
    simp(config:=cS)only[go_sem,eqT h5,eqT h6,eqT h7]
    refine au gb2 ?_
    simp(config:=cS)only[go_sem]
   ·cases b2
    simp(config:=cS)only[go_sem,eqF h5]
    refine au gb2 ?_
    simp(config:=cS)only[go_sem]
  ·cases b2
   obtain rfl:=(aj gb2).symm
   try dsimp only at h
   cases h
   simp(config:=cS)only[go_sem,eqF h3]
def ic (c:Bool)(a:Nat)(b:List AV):(Int × Int × (List Int))→St
 | (e,f,d)=>⟨[(0,.ref 10000 0 0 d.length),(1,.fn a b),(5,.lit (.int .i64 e)),(6,.lit (.int .i64 f))],[(10000,0,.row c (ab eI d))],2⟩
attribute [go_sem] ic
attribute [go_sem] Tryz.ntmps186 Tryz.results186
theorem pG {v0:List Int}{v1:Int→Option Bool}{zb0:Bool}{f_v1:Nat}{k_v1:List AV}(hp_v1:∀ y0 r,v1 y0=some r→am Tryz.prog f_v1 ([.lit (.int .i64 y0)]++k_v1) [] (.lit (.bool r)) [])(hc_v1:KC k_v1)(hm_v1:∀ a,mdT f_v1 a=⟨[],false⟩)(hk_v1:spf f_v1=false){res:List Int}(h:cG v0 v1=some res):am Tryz.prog 186 [.ref 10000 0 0 v0.length,.fn f_v1 k_v1] [(10000,0,.row zb0 (ab eI v0))] (.ref 10000 0 0 res.length) [(10000,0,.row false (ab eI res))]:=by
 refine ai (ra:=[.home 4,.trim 4]) (md:=mdT) hT (hi:=hi00) Tryz.func186 rfl rfl (by decide +kernel) (by simp) ?_
 unfold cG at h
 obtain ⟨r01,g1,h⟩:=ae h
 simp(config:=cS)only[go_sem,hc_v1.1,hc_v1.2,hm_v1,hk_v1]
 refine ag (kS hp_v1 hc_v1 hm_v1 hk_v1 g1) ?_
 obtain ⟨h2,h⟩|⟨h2,h⟩:=af h
 ·cases h
  simp(config:=cS)only[go_sem,hc_v1.1,hc_v1.2,hm_v1,hk_v1,eqT h2]
 ·obtain ⟨q05,l3,h⟩:=ae h
  simp(config:=cS)only[go_sem,hc_v1.1,hc_v1.2,hm_v1,hk_v1,eqF h2]
  refine aw (m1:=.mk) (m2:=.mk) [.nf [0,1,5,6] [10000]] (ic zb0 f_v1 k_v1) l3 ?_ ?_
  ·simp(config:=cS)only[go_sem,hc_v1.1,hc_v1.2,hm_v1,hk_v1,eqF h2]
  ·intro nb4 sb4 bb4 b4 gb4
   obtain ⟨v5_1,v6_1,v0_1⟩:=sb4
   unfold bR at b4
   try dsimp only at b4
   obtain ⟨h5,b4⟩|⟨h5,b4⟩:=af b4
   ·obtain ⟨x02,g6,b4⟩:=ae b4
    obtain ⟨h7,h8,h9⟩:=ak g6
    obtain ⟨r03,g10,b4⟩:=ae b4
    simp(config:=cS)only[go_sem,hc_v1.1,hc_v1.2,hm_v1,hk_v1,eqF h2,eqT h5,h7,h8,h9]
    refine ag (hp_v1 _ _ g10) ?_
    obtain ⟨h11,b4⟩|⟨h11,b4⟩:=af b4
    ·cases b4
     simp(config:=cS)only[go_sem,hc_v1.1,hc_v1.2,hm_v1,hk_v1,eqF h2,eqT h5,h7,h8,h9,eZt h11]
     refine au gb4 ?_
     simp(config:=cS)only[go_sem,hc_v1.1,hc_v1.2,hm_v1,hk_v1,eqF h2,eqT h5,h7,h8,h9,eZt h11]
    ·obtain ⟨x04,g12,b4⟩:=ae b4
     obtain ⟨h13,h14,h15⟩:=ak g12
     cases b4
     simp(config:=cS)only[go_sem,hc_v1.1,hc_v1.2,hm_v1,hk_v1,eqF h2,eqT h5,h7,h8,h9,eZf h11,h13,h14,h15]
     refine au gb4 ?_
     simp(config:=cS)only[go_sem,hc_v1.1,hc_v1.2,hm_v1,hk_v1,eqF h2,eqT h5,h7,h8,h9,eZf h11,h13,h14,h15]
   ·cases b4
    obtain rfl:=(aj gb4).symm
    try dsimp only at h
    obtain ⟨h17,h⟩:=al h
    obtain ⟨h18,h⟩:=al h
    obtain ⟨h19,h⟩:=al h
    cases h
    simp(config:=cS)only[go_sem,hc_v1.1,hc_v1.2,hm_v1,hk_v1,eqF h2,eqF h5,eqT h17,eqT h18,eqT h19]
attribute [go_sem] Tryz.ntmps268 Tryz.results268
theorem sR {n:Int}{res:Bool}(h:gV n=some res):am Tryz.prog 268 [.lit (.int .i64 n)] [] (.lit (.bool res)) []:=by
 refine ai (ra:=[]) (md:=mdT) hT (hi:=hi00) Tryz.func268 rfl rfl (by decide +kernel) (by simp) ?_
 unfold gV at h
 obtain ⟨h1,h⟩|⟨h1,h⟩:=af h
 ·cases h
  simp(config:=cS)only[go_sem,eqT h1]
 ·cases h
  simp(config:=cS)only[go_sem,eqF h1]
attribute [go_sem] Tryz.ntmps201 Tryz.results201
theorem pW {v:List Int}{res:Bool}(h:fb v=some res):am Tryz.prog 201 [.sl (ab eI v)] [] (.lit (.bool res)) []:=by
 refine ai (ra:=[]) (md:=mdT) hT (hi:=hi00) Tryz.func201 rfl rfl (by decide +kernel) (by simp) ?_
 unfold fb at h
 obtain ⟨h1,h⟩|⟨h1,h⟩:=af h
 ·obtain ⟨r01,g2,h⟩:=ae h
  simp(config:=cS)only[go_sem,eqT h1]
  refine ag (fJ (by exact fun _ _ hr=>sR hr) (by refine ⟨fun _=>?_,fun _=>?_⟩ <;> simp only [go_sem]) (fun _=>rfl) rfl g2) ?_
  cases h
  simp(config:=cS)only[go_sem]
 ·cases h
  simp(config:=cS)only[go_sem,eqF h1]
attribute [go_sem] Tryz.ntmps202 Tryz.results202
theorem Cw {l:Int}{v:List Int}{res:Int}(h:kc l v=some res):am Tryz.prog 202 [.lit (.int .i64 l),.sl (ab eI v)] [] (.lit (.int .i64 res)) []:=by
 refine ai (ra:=[]) (md:=mdT) hT (hi:=hi00) Tryz.func202 rfl rfl (by decide +kernel) (by simp) ?_
 unfold kc at h
 obtain ⟨r01,g1,h⟩:=ae h
 simp(config:=cS)only[go_sem]
 refine ag (gF g1) ?_
 obtain ⟨x02,g2,h⟩:=ae h
 obtain ⟨h3,h4,h5⟩:=ak g2
 obtain ⟨h6,h⟩|⟨h6,h⟩:=af h
 ·cases h
  simp(config:=cS)only[go_sem,h3,h4,h5,eqT h6]
 ·cases h
  simp(config:=cS)only[go_sem,h3,h4,h5,eqF h6]
def kD (v a:List Int)(b:Int):(Int × Int)→St
 | (c,d)=>⟨[(1,.sl (ab eI v)),(5,.lit (.int .i64 c)),(16,.sl (ab eI a)),(17,.lit (.int .i64 b)),(18,.lit (.int .i64 d))],[],2⟩
attribute [go_sem] kD
attribute [go_sem] Tryz.ntmps126 Tryz.results126
theorem um {l v:List Int}{res:Int}(h:fA l v=some res):am Tryz.prog 126 [.sl (ab eI l),.sl (ab eI v)] [] (.lit (.int .i64 res)) []:=by
 refine ai (ra:=[]) (md:=mdT) hT (hi:=hi00) Tryz.func126 rfl rfl (by decide +kernel) (by simp) ?_
 unfold fA at h
 obtain ⟨r01,g1,h⟩:=ae h
 simp(config:=cS)only[go_sem]
 refine ag (iu g1) ?_
 obtain ⟨h2,h⟩|⟨h2,h⟩:=af h
 ·obtain ⟨r02,g3,h⟩:=ae h
  simp(config:=cS)only[go_sem,eZt h2]
  refine ag (pW g3) ?_
  obtain ⟨h4,h⟩|⟨h4,h⟩:=af h
  ·obtain ⟨q05,l5,h⟩:=ae h
   simp(config:=cS)only[go_sem,eZt h2,eZt h4]
   refine aw (m1:=.mk) (m2:=.mk) [.nf [1,5,16,17,18] []] (kD v l ((l.length:Nat):Int)) l5 ?_ ?_
   ·simp(config:=cS)only[go_sem,eZt h2,eZt h4]
   ·intro nb6 sb6 bb6 b6 gb6
    obtain ⟨out_1,v18_1⟩:=sb6
    unfold dx at b6
    try dsimp only at b6
    obtain ⟨h7,b6⟩|⟨h7,b6⟩:=af b6
    ·obtain ⟨x03,g8,b6⟩:=ae b6
     obtain ⟨h9,h10,h11⟩:=ak g8
     obtain ⟨r04,g12,b6⟩:=ae b6
     simp(config:=cS)only[go_sem,eZt h2,eZt h4,eqT h7,h9,h10,h11]
     refine ag (Cw g12) ?_
     cases b6
     simp(config:=cS)only[go_sem,eZt h2,eZt h4,eqT h7,h9,h10,h11]
     refine au gb6 ?_
     simp(config:=cS)only[go_sem,eZt h2,eZt h4,eqT h7,h9,h10,h11]
    ·cases b6
     obtain rfl:=(aj gb6).symm
     try dsimp only at h
     cases h
     simp(config:=cS)only[go_sem,eZt h2,eZt h4,eqF h7]
  ·cases h
   simp(config:=cS)only[go_sem,eZt h2,eZf h4]
 ·cases h
  simp(config:=cS)only[go_sem,eZf h2]
@[go_sem] def hi279_1:DT:=.i2 0 (.i2 1 (.i2 2 (.i2 3 (.i2 4 (.i2 5 (.i2 6 (.i2 7 (.i2 8 (.i2 9 .nil)))))))))
def BH:Hint where
 acts:=fun _=>[]
 draws:=fun
  | 1=>⟨hi279_1,[[],[0],[],[0,1,2],[0,1,2,3],.range 5,[],[6],.range 8,.range 9],.range 10⟩
  | _=>⟨.nil,[],[]⟩
theorem Me (i:Nat):BH.acts i=[]:=rfl
theorem Mf (i:Nat):BH.views i=none:=rfl
attribute [go_sem] Me Mf Tryz.ntmps279 Tryz.results279
@[go_sem] theorem Ob:(BH.draws 1).order=hi279_1:=rfl
theorem vF {s:GShow}{v1:GState}{node res:Int}(h:iZ s v1 node=some res):am Tryz.prog 279 [.agg (GShow.encS s),.agg (GState.encS v1),.lit (.int .i64 node)] [] (.lit (.int .i64 res)) []:=by
 refine ai (ra:=[]) (md:=mdT) hT (hi:=BH) Tryz.func279 rfl rfl (by decide +kernel) (by simp) ?_
 unfold iZ at h
 obtain ⟨x01,g1,h⟩:=ae h
 obtain ⟨h2,h3,h4⟩:=ak g1
 obtain ⟨r02,g5,h⟩:=ae h
 simp(config:=cS)only[go_sem,h2,h3,h4]
 refine ag (um g5) ?_
 cases h
 simp(config:=cS)only[go_sem]
attribute [go_sem] Tryz.ntmps306 Tryz.results306
theorem un {i:Int}{v1:GState}{s:GShow}{res:Bool}(h:ik i v1 s=some res):am Tryz.prog 306 [.lit (.int .i64 i),.loc [.lit (.int .i64 v1.now),.sl (ab eI v1.times),.sl (ab eI v1.values)],.loc [.sl (ab GNode.encS s.nodes),.sl (ab GTie.enc s.ties),.lit (.int .i64 s.horizon)]] [] (.lit (.bool res)) []:=by
 refine ai (ra:=[]) (md:=mdT) hT (hi:=hi00) Tryz.func306 rfl rfl (by decide +kernel) (by simp) ?_
 unfold ik at h
 obtain ⟨x01,g1,h⟩:=ae h
 obtain ⟨h2,h3,h4⟩:=ak g1
 obtain ⟨h5,h⟩|⟨h5,h⟩:=af h
 ·obtain ⟨r02,g6,h⟩:=ae h
  simp(config:=cS)only[go_sem,h2,h3,h4,eqT h5]
  refine ag (vF g6) ?_
  cases h
  simp(config:=cS)only[go_sem]
 ·cases h
  simp(config:=cS)only[go_sem,h2,h3,h4,eqF h5]
attribute [go_sem] Tryz.ntmps267 Tryz.results267
theorem yW {s:GShow}{v1:GState}{res:List Int}(h:iH s v1=some res):am Tryz.prog 267 [.agg (GShow.encS s),.agg (GState.encS v1)] [] (.ref 20000 1 0 res.length) [(20000,1,.row false (ab eI res))]:=by
 refine ai (ra:=[.home 4,.trim 4]) (md:=mdT) hT (hi:=hi00) Tryz.func267 rfl rfl (by decide +kernel) (by simp) ?_
 unfold iH at h
 obtain ⟨r01,g1,h⟩:=ae h
 simp(config:=cS)only[go_sem]
 refine ag (AM g1) ?_
 obtain ⟨r02,g2,h⟩:=ae h
 simp(config:=cS)only[go_sem]
 refine ag (pG (by exact fun _ _ hr=>un hr) (by refine ⟨fun _=>?_,fun _=>?_⟩ <;> simp only [go_sem]) (fun _=>rfl) rfl g2) ?_
 cases h
 simp(config:=cS)only[go_sem]
def kU (a:List Int):(Int × (List (List Int)))→St
 | (c,b)=>⟨[(5,.ref 640 1 0 a.length),(6,.ref 447 1 0 b.length),(7,.lit (.int .i64 c))],[(640,1,.row false (ab eI a)),(447,1,.row true (ab (eLO eI) b))],2⟩
attribute [go_sem] kU
attribute [go_sem] Tryz.ntmps195 Tryz.results195
theorem vG {s:GShow}{v1:GState}{res:List (List Int)}(h:gu s v1=some res):am Tryz.prog 195 [.agg (GShow.encS s),.agg (GState.encS v1)] [] (.ref 20000 1 0 res.length) [(20000,1,.row true (ab (eLO eI) res))]:=by
 refine ai (ra:=[.home 4]) (md:=mdT) hT (hi:=hi00) Tryz.func195 rfl rfl (by decide +kernel) (by simp) ?_
 unfold gu at h
 obtain ⟨r01,g1,h⟩:=ae h
 simp(config:=cS)only[go_sem]
 refine ag (yW g1) ?_
 obtain ⟨h2,h⟩:=al h
 obtain ⟨q03,l3,h⟩:=ae h
 simp(config:=cS)only[go_sem,eqF h2]
 refine aw (m1:=.mk) (m2:=.mk) [.home 6,.nf [5,6,7] [640,447]] (kU r01) l3 ?_ ?_
 ·simp(config:=cS)only[go_sem]
 ·intro nb4 sb4 bb4 b4 gb4
  obtain ⟨set_1,out_1⟩:=sb4
  unfold dZ at b4
  try dsimp only at b4
  obtain ⟨h5,b4⟩|⟨h5,b4⟩:=af b4
  ·obtain ⟨r02,g6,b4⟩:=ae b4
   simp(config:=cS)only[go_sem,eqT h5]
   refine ag (qJ g6) ?_
   obtain ⟨h7,b4⟩:=al b4
   obtain ⟨h8,b4⟩:=al b4
   cases b4
   simp(config:=cS)only[go_sem,eqT h7,eqT h8]
   refine au gb4 ?_
   simp(config:=cS)only[go_sem]
  ·cases b4
   obtain rfl:=(aj gb4).symm
   try dsimp only at h
   cases h
   simp(config:=cS)only[go_sem,eqF h5]
def mE (h:List Int)(i:Int)(j:List GNode)(k:List GTie)(l e:Int)(f g:List Int)(d:Int)(b:List Int):(Int × (List Int) × (List Int))→St
 | (m,a,c)=>⟨[(3,.ptr 192 1 0 0),(4,.ptr 256 1 0 0),(6,.ptr 384 1 0 0),(8,.ptr 512 1 0 0),(9,.ref 639 1 0 a.length),(14,.sl (ab eI h)),(15,.lit (.int .i64 i)),(16,.lit (.int .i64 m))],[(192,1,.var [.sl (ab GNode.encS j),.sl (ab GTie.enc k),.lit (.int .i64 l)]),(256,1,.var [.lit (.int .i64 e),.sl (ab eI f),.sl (ab eI g)]),(384,1,.var [.lit (.int .i64 0),.lit (.slice none 0 0),.lit (.slice none 0 0)]),(512,1,.var [.lit (.int .i64 d),.ref 832 1 0 c.length,.ref 833 1 0 b.length]),(832,1,.row true (ab eI c)),(833,1,.row true (ab eI b)),(639,1,.row true (ab eI a))],2⟩
attribute [go_sem] mE
attribute [go_sem] Tryz.ntmps196 Tryz.results196
theorem yX {s:GShow}{v1:GState}{nodes:List Int}{res:GState × (List Int)}(h:iI s v1 nodes=some res):am Tryz.prog 196 [.agg (GShow.encS s),.agg (GState.encS v1),.sl (ab eI nodes)] [] (.tup [.agg [.lit (.int .i64 res.1.now),.ref 20000 1 0 res.1.times.length,.ref 20001 1 0 res.1.values.length],.ref 20002 1 0 res.2.length]) [(20000,1,.row true (ab eI res.1.times)),(20001,1,.row true (ab eI res.1.values)),(20002,1,.row true (ab eI res.2))]:=by
 refine ai (ra:=[.homeCell 384 1,.homeCell 384 2,.home 7]) (md:=mdT) hT (hi:=hi00) Tryz.func196 rfl rfl (by decide +kernel) (by simp) ?_
 unfold iI at h
 obtain ⟨r01,g1,h⟩:=ae h
 simp(config:=cS)only[go_sem]
 refine ag (lp g1) ?_
 obtain ⟨q06,l2,h⟩:=ae h
 simp(config:=cS)only[go_sem]
 refine aw (m1:=.mk) (m2:=.mk) [.home 9,.nf [3,4,6,8,9,14,15,16] [192,256,384,512,832,833,639]] (mE nodes ((nodes.length:Nat):Int) s.nodes s.ties s.horizon v1.now v1.times v1.values r01.now r01.values) l2 ?_ ?_
 ·simp(config:=cS)only[go_sem]
 ·intro nb3 sb3 bb3 b3 gb3
  obtain ⟨v16_1,props_1,h832_1⟩:=sb3
  unfold fB at b3
  try dsimp only at b3
  obtain ⟨h4,b3⟩|⟨h4,b3⟩:=af b3
  ·obtain ⟨x02,g5,b3⟩:=ae b3
   obtain ⟨h6,h7,h8⟩:=ak g5
   obtain ⟨x03,g9,b3⟩:=ae b3
   obtain ⟨h10,h11,h12⟩:=ak g9
   obtain ⟨x04,g13,b3⟩:=ae b3
   obtain ⟨h14,h15,h16⟩:=ak g13
   obtain ⟨h17,b3⟩|⟨h17,b3⟩:=af b3
   ·cases b3
    simp(config:=cS)only[go_sem,eqT h4,h6,h7,h8,h10,h11,h12,h14,h15,h16,eqT h17]
    refine au gb3 ?_
    simp(config:=cS)only[go_sem]
   ·obtain ⟨h18,b3⟩:=al b3
    obtain ⟨h19,b3⟩:=al b3
    cases b3
    simp(config:=cS)only[go_sem,eqT h4,h6,h7,h8,h10,h11,h12,h14,h15,h16,eqF h17,eqT h18,eqT h19]
    refine au gb3 ?_
    simp(config:=cS)only[go_sem]
  ·cases b3
   obtain rfl:=(aj gb3).symm
   try dsimp only at h
   obtain ⟨r05,g21,h⟩:=ae h
   simp(config:=cS)only[go_sem,eqF h4]
   refine ag (oG g21) ?_
   obtain ⟨h22,h⟩:=al h
   cases h
   simp(config:=cS)only[go_sem,h22.symm]
def lL (a e:List Int)(f d:Int)(b:List Int):(Int × (List Int))→St
 | (g,c)=>⟨[(2,.sl (ab eI a)),(6,.ptr 384 1 0 0),(7,.ptr 448 1 0 0),(12,.sl (ab eI e)),(13,.lit (.int .i64 f)),(14,.lit (.int .i64 g))],[(384,1,.var [.lit (.int .i64 0),.lit (.slice none 0 0),.lit (.slice none 0 0)]),(448,1,.var [.lit (.int .i64 d),.ref 704 1 0 b.length,.ref 705 1 0 c.length]),(704,1,.row true (ab eI b)),(705,1,.row true (ab eI c))],2⟩
attribute [go_sem] lL
@[go_sem] def hi198_5:DT:=.i2 0 (.i2 1 (.i2 2 (.i2 3 (.i2 4 (.i2 5 (.i2 6 (.i2 7 (.i2 8 (.i2 9 .nil)))))))))
def BI:Hint where
 acts:=fun _=>[]
 draws:=fun
  | 5=>⟨hi198_5,[[],[0],[],[2],[],[],[4,5],[4,5,6],.range 8,.range 9],.range 10⟩
  | _=>⟨.nil,[],[]⟩
theorem Mg (i:Nat):BI.acts i=[]:=rfl
theorem Mh (i:Nat):BI.views i=none:=rfl
attribute [go_sem] Mg Mh Tryz.ntmps198 Tryz.results198
@[go_sem] theorem Oc:(BI.draws 5).order=hi198_5:=rfl
theorem xA {v0:GState}{props values:List Int}{res:GState}(h:gW v0 props values=some res):am Tryz.prog 198 [.agg (GState.encS v0),.sl (ab eI props),.sl (ab eI values)] [] (.agg [.lit (.int .i64 res.now),.ref 20000 1 0 res.times.length,.ref 20001 1 0 res.values.length]) [(20000,1,.row true (ab eI res.times)),(20001,1,.row true (ab eI res.values))]:=by
 refine ai (ra:=[.homeCell 384 1,.homeCell 384 2]) (md:=mdT) hT (hi:=BI) Tryz.func198 rfl rfl (by decide +kernel) (by simp) ?_
 unfold gW at h
 obtain ⟨r01,g1,h⟩:=ae h
 simp(config:=cS)only[go_sem]
 refine ag (lp g1) ?_
 obtain ⟨q05,l2,h⟩:=ae h
 simp(config:=cS)only[go_sem]
 refine aw (m1:=.mk) (m2:=.mk) [.nf [2,6,7,12,13,14] [384,448,704,705]] (lL values props ((props.length:Nat):Int) r01.now r01.times) l2 ?_ ?_
 ·simp(config:=cS)only[go_sem]
 ·intro nb3 sb3 bb3 b3 gb3
  obtain ⟨v14_1,h705_1⟩:=sb3
  unfold eU at b3
  try dsimp only at b3
  obtain ⟨h4,b3⟩|⟨h4,b3⟩:=af b3
  ·obtain ⟨x02,g5,b3⟩:=ae b3
   obtain ⟨h6,h7,h8⟩:=ak g5
   obtain ⟨x03,g9,b3⟩:=ae b3
   obtain ⟨h10,h11,h12⟩:=ak g9
   obtain ⟨x04,g13,b3⟩:=ae b3
   obtain ⟨h14,h15,h16⟩:=ak g13
   cases b3
   simp(config:=cS)only[go_sem,eqT h4,h6,h7,h8,h10,h11,h12,h14,h15,h16]
   refine au gb3 ?_
   simp(config:=cS)only[go_sem]
  ·cases b3
   obtain rfl:=(aj gb3).symm
   try dsimp only at h
   cases h
   simp(config:=cS)only[go_sem,eqF h4]
def ob (g:List Int)(h e:Int)(b c d:List Int):(Int × (List Int) × (List Int))→St
 | (i,f,a)=>⟨[(6,.ptr 384 1 0 0),(9,.ptr 576 1 0 0),(10,.ref 3458 1 0 d.length),(11,.ref 767 1 0 f.length),(12,.ref 831 1 0 a.length),(58,.sl (ab eI g)),(59,.lit (.int .i64 h)),(60,.lit (.int .i64 i))],[(384,1,.var [.lit (.int .i64 0),.lit (.slice none 0 0),.lit (.slice none 0 0)]),(576,1,.var [.lit (.int .i64 e),.ref 3456 1 0 b.length,.ref 3457 1 0 c.length]),(3456,1,.row true (ab eI b)),(3457,1,.row true (ab eI c)),(3458,1,.row true (ab eI d)),(767,1,.row true (ab eI f)),(831,1,.row true (ab eI a))],2⟩
attribute [go_sem] ob
@[go_sem] def hi110_4:DT:=.i2 0 (.i2 1 (.i1 3 (.i1 4 (.i0 2 [3,4] (.i2 5 (.i2 6 .nil))))))
@[go_sem] def hi110_1:DT:=.i2 0 (.i2 1 (.i2 2 (.i2 3 (.i2 4 (.i2 5 (.i2 6 (.i2 7 (.i1 9 (.i1 10 (.i0 8 [9,10] (.i2 11 (.i2 12 (.i2 13 (.i2 14 (.i2 15 (.i2 16 (.i2 17 (.i2 18 (.i2 19 .nil)))))))))))))))))))
def xB:Hint where
 acts:=fun _=>[]
 draws:=fun
  | 1=>⟨hi110_1,[[],[0],[],[2],[0,1,2,3],.range 5,.range 6,.range 6,.range 8,.range 6,[0,1,2,3,4,5,9],.range 11,.range 12,.range 13,.range 14,.range 15,.range 16,.range 17,.range 18,.range 19],.range 20⟩
  | 4=>⟨hi110_4,[[],[],[0,1],[],[3],.range 5,.range 6],.range 7⟩
  | _=>⟨.nil,[],[]⟩
theorem Mi (i:Nat):xB.acts i=[]:=rfl
theorem Mj (i:Nat):xB.views i=none:=rfl
attribute [go_sem] Mi Mj Tryz.ntmps110 Tryz.results110
@[go_sem] theorem Od:(xB.draws 1).order=hi110_1:=rfl
@[go_sem] theorem Oe:(xB.draws 4).order=hi110_4:=rfl
theorem Cx {s:GShow}{v1:GState}{e:GEntry}{res:GState × Bool}(h:kd s v1 e=some res):am Tryz.prog 110 [.agg (GShow.encS s),.agg (GState.encS v1),.agg (GEntry.encS e)] [] (.tup [.agg [.lit (.int .i64 res.1.now),.ref 20000 1 0 res.1.times.length,.ref 20001 1 0 res.1.values.length],.lit (.bool res.2)]) [(20000,1,.row true (ab eI res.1.times)),(20001,1,.row true (ab eI res.1.values))]:=by
 refine ai (ra:=[.homeCell 384 1,.homeCell 384 2]) (md:=mdT) hT (hi:=xB) Tryz.func110 rfl rfl (by decide +kernel) (by simp) ?_
 unfold kd at h
 obtain ⟨h1,h⟩|⟨h1,h⟩:=af h
 ·obtain ⟨r01,g2,h⟩:=ae h
  simp(config:=cS)only[go_sem,eqT h1]
  refine ag (yU g2) ?_
  obtain ⟨r02,g3,h⟩:=ae h
  simp(config:=cS)only[go_sem,eqT h1]
  refine ag (xz g3) ?_
  obtain ⟨h4,h⟩|⟨h4,h⟩:=af h
  ·obtain ⟨r03,g5,h⟩:=ae h
   simp(config:=cS)only[go_sem,eqT h1,eZt h4]
   refine ag (iu g5) ?_
   obtain ⟨h6,h⟩|⟨h6,h⟩:=af h
   ·obtain ⟨r04,g7,h⟩:=ae h
    simp(config:=cS)only[go_sem,eqT h1,eZt h4,eZt h6]
    refine ag (Cv g7) ?_
    obtain ⟨r05,g8,h⟩:=ae h
    simp(config:=cS)only[go_sem,eqT h1,eZt h4,eZt h6]
    refine ag (vG g8) ?_
    obtain ⟨r06,g9,h⟩:=ae h
    simp(config:=cS)only[go_sem,eqT h1,eZt h4,eZt h6]
    refine ag (xz g9) ?_
    obtain ⟨h10,h⟩|⟨h10,h⟩:=af h
    ·obtain ⟨r07,g11,h⟩:=ae h
     simp(config:=cS)only[go_sem,eqT h1,eZt h4,eZt h6,eZt h10]
     refine ag (yX g11) ?_
     obtain ⟨q13,l12,h⟩:=ae h
     simp(config:=cS)only[go_sem,eqT h1,eZt h4,eZt h6,eZt h10]
     refine aw (m1:=.mk) (m2:=.mk) [.home 11,.home 12,.nf [6,9,10,11,12,58,59,60] [384,576,3456,3457,3458,767,831]] (ob e.values ((e.values.length:Nat):Int) r07.1.now r07.1.times r07.1.values r07.2) l12 ?_ ?_
     ·simp(config:=cS)only[go_sem,eqT h1,eZt h4,eZt h6,eZt h10]
     ·intro nb13 sb13 bb13 b13 gb13
      obtain ⟨v60_1,seen_1,values_1⟩:=sb13
      unfold gX at b13
      try dsimp only at b13
      obtain ⟨h14,b13⟩|⟨h14,b13⟩:=af b13
      ·obtain ⟨x08,g15,b13⟩:=ae b13
       obtain ⟨h16,h17,h18⟩:=ak g15
       obtain ⟨r09,g19,b13⟩:=ae b13
       simp(config:=cS)only[go_sem,eqT h1,eZt h4,eZt h6,eZt h10,eqT h14,h16,h17,h18]
       refine ag (gF g19) ?_
       obtain ⟨h20,b13⟩:=al b13
       obtain ⟨h21,b13⟩:=al b13
       obtain ⟨r10,g22,b13⟩:=ae b13
       simp(config:=cS)only[go_sem,eqT h1,eZt h4,eZt h6,eZt h10,eqT h14,h16,h17,h18,eqT h20,eqT h21]
       refine ag (gF g22) ?_
       obtain ⟨h23,b13⟩:=al b13
       obtain ⟨h24,b13⟩:=al b13
       obtain ⟨h25,b13⟩:=al b13
       cases b13
       simp(config:=cS)only[go_sem,eqT h1,eZt h4,eZt h6,eZt h10,eqT h14,h16,h17,h18,eqT h20,eqT h21,eqF h23,eqT h24,eqT h25]
       refine au gb13 ?_
       simp(config:=cS)only[go_sem,eqT h1,eZt h4,eZt h6,eZt h10,eqT h14,h16,h17,h18,eqT h20,eqT h21,eqF h23,eqT h24,eqT h25]
      ·cases b13
       obtain rfl:=(aj gb13).symm
       try dsimp only at h
       obtain ⟨r11,g27,h⟩:=ae h
       simp(config:=cS)only[go_sem,eqT h1,eZt h4,eZt h6,eZt h10,eqF h14]
       refine ag (eL g27) ?_
       obtain ⟨h28,h⟩|⟨h28,h⟩:=af h
       ·obtain ⟨r12,g29,h⟩:=ae h
        simp(config:=cS)only[go_sem,eqT h1,eZt h4,eZt h6,eZt h10,eqF h14,eZt h28]
        refine ag (xA g29) ?_
        cases h
        simp(config:=cS)only[go_sem,eqT h1,eZt h4,eZt h6,eZt h10,eqF h14,eZt h28]
       ·cases h
        simp(config:=cS)only[go_sem,eqT h1,eZt h4,eZt h6,eZt h10,eqF h14,eZf h28]
    ·cases h
     simp(config:=cS)only[go_sem,eqT h1,eZt h4,eZt h6,eZf h10]
   ·cases h
    simp(config:=cS)only[go_sem,eqT h1,eZt h4,eZf h6]
  ·cases h
   simp(config:=cS)only[go_sem,eqT h1,eZf h4]
 ·cases h
  simp(config:=cS)only[go_sem,eqF h1]
def kV (d:List GEntry)(e:Int)(f:List GNode)(g:List GTie)(h:Int):(Int × Int × (List Int) × (List Int))→St
 | (i,c,a,b)=>⟨[(2,.ptr 128 1 0 0),(4,.ptr 256 1 0 0),(6,.ptr 384 1 0 0),(17,.sl (ab GEntry.encS d)),(18,.lit (.int .i64 e)),(19,.lit (.int .i64 i))],[(128,1,.var [.sl (ab GNode.encS f),.sl (ab GTie.enc g),.lit (.int .i64 h)]),(256,1,.var [.lit (.int .i64 0),.lit (.slice none 0 0),.lit (.slice none 0 0)]),(384,1,.var [.lit (.int .i64 c),.ref 1024 1 0 a.length,.ref 1025 1 0 b.length]),(1024,1,.row true (ab eI a)),(1025,1,.row true (ab eI b))],2⟩
attribute [go_sem] kV
attribute [go_sem] Tryz.ntmps45 Tryz.results45
theorem vH {s:GShow}{log:List GEntry}{res:GState × Bool}(h:gv s log=some res):am Tryz.prog 45 [.agg (GShow.encS s),.sl (ab GEntry.encS log)] [] (.tup [.agg [.lit (.int .i64 res.1.now),.ref 20000 1 0 res.1.times.length,.ref 20001 1 0 res.1.values.length],.lit (.bool res.2)]) [(20000,1,.row true (ab eI res.1.times)),(20001,1,.row true (ab eI res.1.values))]:=by
 refine ai (ra:=[.homeCell 256 1,.homeCell 256 2]) (md:=mdT) hT (hi:=hi00) Tryz.func45 rfl rfl (by decide +kernel) (by simp) ?_
 unfold gv at h
 obtain ⟨r01,g1,h⟩:=ae h
 simp(config:=cS)only[go_sem]
 refine ag (oB g1) ?_
 obtain ⟨h2,h⟩|⟨h2,h⟩:=af h
 ·obtain ⟨r02,g3,h⟩:=ae h
  simp(config:=cS)only[go_sem,eZt h2]
  refine ag (uj g3) ?_
  obtain ⟨q05,l4,h⟩:=ae h
  simp(config:=cS)only[go_sem]
  refine aw (m1:=.mk) (m2:=.mk) [.nfp [2,4,6,17,18,19] [(128,128),(256,256),(384,384),(1728,1024),(1024,1024),(1729,1025),(1025,1025)] []] (kV log ((log.length:Nat):Int) s.nodes s.ties s.horizon) l4 ?_ ?_
  ·simp(config:=cS)only[go_sem]
  ·intro nb5 sb5 bb5 b5 gb5
   obtain ⟨v19_1,v6_0_1,h1024_1,h1025_1⟩:=sb5
   unfold ea at b5
   try dsimp only at b5
   obtain ⟨h6,b5⟩|⟨h6,b5⟩:=af b5
   ·obtain ⟨x03,g7,b5⟩:=ae b5
    obtain ⟨h8,h9,h10⟩:=ak g7
    obtain ⟨r04,g11,b5⟩:=ae b5
    simp(config:=cS)only[go_sem,eqT h6,h8,h9,h10]
    refine ag (Cx g11) ?_
    obtain ⟨h12,b5⟩|⟨h12,b5⟩:=af b5
    ·cases b5
     simp(config:=cS)only[go_sem,eZt h12]
     refine au gb5 ?_
     simp(config:=cS)only[go_sem]
    ·cases b5
     obtain rfl:=(aj gb5).symm
     try dsimp only at h
     cases h
     simp(config:=cS)only[go_sem,eZf h12]
   ·cases b5
    obtain rfl:=(aj gb5).symm
    try dsimp only at h
    cases h
    simp(config:=cS)only[go_sem,eqF h6]
 ·cases h
  simp(config:=cS)only[go_sem,eZf h2]
attribute [go_sem] Tryz.ntmps155 Tryz.results155
def qK (d:List GNode)(e c:Int)(b:List GTie):(Int × (List GNode))→St
 | (f,a)=>⟨[(2,.ptr 128 1 0 0),(3,.ptr 192 1 0 0),(13,.sl (ab GNode.encS d)),(14,.lit (.int .i64 e)),(15,.lit (.int .i64 f))],[(128,1,.var [.lit (.slice none 0 0),.lit (.slice none 0 0),.lit (.int .i64 0)]),(192,1,.var [.ref 100012288 1 0 a.length,.ref 512 1 0 b.length,.lit (.int .i64 c)]),(100012288,1,.row true (ab GNode.encO a)),(512,1,.row true (ab GTie.enc b))],2⟩
attribute [go_sem] qK
@[go_sem] def hi84_1:DT:=.i1 0 (.i1 1 (.i1 3 (.i1 4 (.fork (.i0 2 [3,4] (.i2 5 (.i0 6 [0,1,3,4] (.i2 7 .nil)))) (.i0 6 [0,1,3,4] (.i0 2 [3,4] (.i2 5 (.i2 7 .nil))))))))
def hi84:Hint where
 acts:=fun _=>[]
 draws:=fun
  | 1=>⟨hi84_1,[[],[0],[0,1],[],[3],.range 5,[],.range 7],.range 8⟩
  | _=>⟨.nil,[],[]⟩
theorem Nb (i:Nat):hi84.acts i=[]:=rfl
theorem Nc (i:Nat):hi84.views i=none:=rfl
attribute [go_sem] Nb Nc Tryz.ntmps84 Tryz.results84
@[go_sem] theorem Om:(hi84.draws 1).order=hi84_1:=rfl
@[go_sem] def hi32_5:DT:=.i2 0 (.i1 2 (.i2 3 (.i2 4 (.i0 1 [2] (.i2 5 (.i2 6 (.i2 7 .nil)))))))
def hi32:Hint where
 acts:=fun _=>[]
 draws:=fun
  | 5=>⟨hi32_5,[[],[0],[],[],[],.range 5,.range 6,.range 7],.range 8⟩
  | _=>⟨.nil,[],[]⟩
theorem Nd (i:Nat):hi32.acts i=[]:=rfl
theorem Nf (i:Nat):hi32.views i=none:=rfl
attribute [go_sem] Nd Nf Tryz.ntmps32 Tryz.results32
@[go_sem] theorem On:(hi32.draws 5).order=hi32_5:=rfl
def nb (a b:List Int)(i:Int):St:=⟨[(0,.sl (ab eI a)),(1,.sl (ab eI b)),(5,.lit (.int .i64 i))],[],2⟩
attribute [go_sem] nb
@[go_sem] def hi18_6:DT:=.i2 0 (.i2 1 (.i2 2 (.i2 3 (.i2 4 (.i2 5 (.i2 6 (.i2 7 (.i2 8 .nil))))))))
def hi18:Hint where
 acts:=fun _=>[]
 draws:=fun
  | 6=>⟨hi18_6,[[],[],[0,1],[0,1,2],[],[],[4,5],[4,5,6],.range 8],.range 9⟩
  | _=>⟨.nil,[],[]⟩
theorem Ng (i:Nat):hi18.acts i=[]:=rfl
theorem Nh (i:Nat):hi18.views i=none:=rfl
attribute [go_sem] Ng Nh Tryz.ntmps18 Tryz.results18
@[go_sem] theorem Oo:(hi18.draws 6).order=hi18_6:=rfl
theorem gG {a b:List Int}{res:Bool}(h:cu a b=some res):am Tryz.prog 18 [.sl (ab eI a),.sl (ab eI b)] [] (.lit (.bool res)) []:=by
 refine ai (ra:=[]) (md:=mdT) hT (hi:=hi18) Tryz.func18 rfl rfl (by decide +kernel) (by simp) ?_
 unfold cu at h
 obtain ⟨h1,h⟩|⟨h1,h⟩:=af h
 ·obtain ⟨q03,l2,h⟩:=ae h
  simp(config:=cS)only[go_sem,eqT h1]
  refine aw (m1:=.mk) (m2:=.mk) [.nf [0,1,5] []] (nb a b) l2 ?_ ?_
  ·simp(config:=cS)only[go_sem]
  ·intro nb3 i_1 bb3 b3 gb3
   unfold ez at b3
   try dsimp only at b3
   obtain ⟨h4,b3⟩|⟨h4,b3⟩:=af b3
   ·obtain ⟨x01,g5,b3⟩:=ae b3
    obtain ⟨h6,h7,h8⟩:=ak g5
    obtain ⟨x02,g9,b3⟩:=ae b3
    obtain ⟨h10,h11,h12⟩:=ak g9
    obtain ⟨h13,b3⟩|⟨h13,b3⟩:=af b3
    ·cases b3
     simp(config:=cS)only[go_sem,eqT h4,h6,h7,h8,h10,h11,h12,eqT h13]
     refine au gb3 ?_
     simp(config:=cS)only[go_sem]
    ·cases b3
     obtain rfl:=(aj gb3).symm
     try dsimp only at h
     cases h
     simp(config:=cS)only[go_sem,eqT h4,h6,h7,h8,h10,h11,h12,eqF h13]
   ·cases b3
    obtain rfl:=(aj gb3).symm
    try dsimp only at h
    cases h
    simp(config:=cS)only[go_sem,eqF h4]
 ·cases h
  simp(config:=cS)only[go_sem,eqF h1]
attribute [go_sem] Tryz.ntmps131 Tryz.results131
theorem AN {a b:GNode}{res:Bool}(h:jw a b=some res):am Tryz.prog 131 [.agg (GNode.encS a),.agg (GNode.encS b)] [] (.lit (.bool res)) []:=by
 refine ai (ra:=[]) (md:=mdT) hT (hi:=hi00) Tryz.func131 rfl rfl (by decide +kernel) (by simp) ?_
 unfold jw at h
 obtain ⟨h1,h⟩|⟨h1,h⟩:=af h
 ·obtain ⟨r01,g2,h⟩:=ae h
  simp(config:=cS)only[go_sem,eqT h1]
  refine ag (gG g2) ?_
  obtain ⟨h3,h⟩|⟨h3,h⟩:=af h
  ·obtain ⟨h4,h⟩|⟨h4,h⟩:=af h
   ·cases h
    simp(config:=cS)only[go_sem,eZt h3,eqT h4]
   ·cases h
    simp(config:=cS)only[go_sem,eZt h3,eqF h4]
  ·cases h
   simp(config:=cS)only[go_sem,eZf h3]
 ·cases h
  simp(config:=cS)only[go_sem,eqF h1]
def mF (a b:List GNode)(i:Int):St:=⟨[(0,.sl (ab GNode.encS a)),(1,.sl (ab GNode.encS b)),(5,.lit (.int .i64 i))],[],2⟩
attribute [go_sem] mF
@[go_sem] def hi61_6:DT:=.i2 0 (.i2 1 (.i2 2 (.i2 3 (.i2 4 (.i2 5 (.i2 6 (.i2 7 (.i2 8 (.i2 9 .nil)))))))))
def hi61:Hint where
 acts:=fun _=>[]
 draws:=fun
  | 6=>⟨hi61_6,[[],[],[0,1],[0,1,2],[],[],[4,5],[4,5,6],.range 8,.range 9],.range 10⟩
  | _=>⟨.nil,[],[]⟩
theorem Ni (i:Nat):hi61.acts i=[]:=rfl
theorem Nj (i:Nat):hi61.views i=none:=rfl
attribute [go_sem] Ni Nj Tryz.ntmps61 Tryz.results61
@[go_sem] theorem Oq:(hi61.draws 6).order=hi61_6:=rfl
theorem yY {a b:List GNode}{res:Bool}(h:iJ a b=some res):am Tryz.prog 61 [.sl (ab GNode.encS a),.sl (ab GNode.encS b)] [] (.lit (.bool res)) []:=by
 refine ai (ra:=[]) (md:=mdT) hT (hi:=hi61) Tryz.func61 rfl rfl (by decide +kernel) (by simp) ?_
 unfold iJ at h
 obtain ⟨h1,h⟩|⟨h1,h⟩:=af h
 ·obtain ⟨q04,l2,h⟩:=ae h
  simp(config:=cS)only[go_sem,eqT h1]
  refine aw (m1:=.mk) (m2:=.mk) [.nf [0,1,5] []] (mF a b) l2 ?_ ?_
  ·simp(config:=cS)only[go_sem]
  ·intro nb3 i_1 bb3 b3 gb3
   unfold fC at b3
   try dsimp only at b3
   obtain ⟨h4,b3⟩|⟨h4,b3⟩:=af b3
   ·obtain ⟨x01,g5,b3⟩:=ae b3
    obtain ⟨h6,h7,h8⟩:=ak g5
    obtain ⟨x02,g9,b3⟩:=ae b3
    obtain ⟨h10,h11,h12⟩:=ak g9
    obtain ⟨r03,g13,b3⟩:=ae b3
    simp(config:=cS)only[go_sem,eqT h4,h6,h7,h8,h10,h11,h12]
    refine ag (AN g13) ?_
    obtain ⟨h14,b3⟩|⟨h14,b3⟩:=af b3
    ·cases b3
     simp(config:=cS)only[go_sem,eZt h14]
     refine au gb3 ?_
     simp(config:=cS)only[go_sem]
    ·cases b3
     obtain rfl:=(aj gb3).symm
     try dsimp only at h
     cases h
     simp(config:=cS)only[go_sem,eZf h14]
   ·cases b3
    obtain rfl:=(aj gb3).symm
    try dsimp only at h
    cases h
    simp(config:=cS)only[go_sem,eqF h4]
 ·cases h
  simp(config:=cS)only[go_sem,eqF h1]
attribute [go_sem] Tryz.ntmps132 Tryz.results132
theorem Cy {a b:GTie}{res:Bool}(h:mI a b=some res):am Tryz.prog 132 [.agg (GTie.enc a),.agg (GTie.enc b)] [] (.lit (.bool res)) []:=by
 refine ai (ra:=[]) (md:=mdT) hT (hi:=hi00) Tryz.func132 rfl rfl (by decide +kernel) (by simp) ?_
 unfold mI at h
 obtain ⟨h1,h⟩|⟨h1,h⟩:=af h
 ·obtain ⟨h2,h⟩|⟨h2,h⟩:=af h
  ·obtain ⟨h3,h⟩|⟨h3,h⟩:=af h
   ·obtain ⟨h4,h⟩|⟨h4,h⟩:=af h
    ·obtain ⟨h5,h⟩|⟨h5,h⟩:=af h
     ·cases h
      simp(config:=cS)only[go_sem,eqT h1,eqT h2,eqT h3,eqT h4,eqT h5]
     ·cases h
      simp(config:=cS)only[go_sem,eqT h1,eqT h2,eqT h3,eqT h4,eqF h5]
    ·cases h
     simp(config:=cS)only[go_sem,eqT h1,eqT h2,eqT h3,eqF h4]
   ·cases h
    simp(config:=cS)only[go_sem,eqT h1,eqT h2,eqF h3]
  ·cases h
   simp(config:=cS)only[go_sem,eqT h1,eqF h2]
 ·cases h
  simp(config:=cS)only[go_sem,eqF h1]
def nc (a b:List GTie)(i:Int):St:=⟨[(0,.sl (ab GTie.enc a)),(1,.sl (ab GTie.enc b)),(5,.lit (.int .i64 i))],[],2⟩
attribute [go_sem] nc
@[go_sem] def hi62_6:DT:=.i2 0 (.i2 1 (.i2 2 (.i2 3 (.i2 4 (.i2 5 (.i2 6 (.i2 7 (.i2 8 (.i2 9 .nil)))))))))
def hi62:Hint where
 acts:=fun _=>[]
 draws:=fun
  | 6=>⟨hi62_6,[[],[],[0,1],[0,1,2],[],[],[4,5],[4,5,6],.range 8,.range 9],.range 10⟩
  | _=>⟨.nil,[],[]⟩
theorem Nk (i:Nat):hi62.acts i=[]:=rfl
theorem Nl (i:Nat):hi62.views i=none:=rfl
attribute [go_sem] Nk Nl Tryz.ntmps62 Tryz.results62
@[go_sem] theorem Ot:(hi62.draws 6).order=hi62_6:=rfl
theorem AO {a b:List GTie}{res:Bool}(h:jx a b=some res):am Tryz.prog 62 [.sl (ab GTie.enc a),.sl (ab GTie.enc b)] [] (.lit (.bool res)) []:=by
 refine ai (ra:=[]) (md:=mdT) hT (hi:=hi62) Tryz.func62 rfl rfl (by decide +kernel) (by simp) ?_
 unfold jx at h
 obtain ⟨h1,h⟩|⟨h1,h⟩:=af h
 ·obtain ⟨q04,l2,h⟩:=ae h
  simp(config:=cS)only[go_sem,eqT h1]
  refine aw (m1:=.mk) (m2:=.mk) [.nf [0,1,5] []] (nc a b) l2 ?_ ?_
  ·simp(config:=cS)only[go_sem]
  ·intro nb3 i_1 bb3 b3 gb3
   unfold gw at b3
   try dsimp only at b3
   obtain ⟨h4,b3⟩|⟨h4,b3⟩:=af b3
   ·obtain ⟨x01,g5,b3⟩:=ae b3
    obtain ⟨h6,h7,h8⟩:=ak g5
    obtain ⟨x02,g9,b3⟩:=ae b3
    obtain ⟨h10,h11,h12⟩:=ak g9
    obtain ⟨r03,g13,b3⟩:=ae b3
    simp(config:=cS)only[go_sem,eqT h4,h6,h7,h8,h10,h11,h12]
    refine ag (Cy g13) ?_
    obtain ⟨h14,b3⟩|⟨h14,b3⟩:=af b3
    ·cases b3
     simp(config:=cS)only[go_sem,eZt h14]
     refine au gb3 ?_
     simp(config:=cS)only[go_sem]
    ·cases b3
     obtain rfl:=(aj gb3).symm
     try dsimp only at h
     cases h
     simp(config:=cS)only[go_sem,eZf h14]
   ·cases b3
    obtain rfl:=(aj gb3).symm
    try dsimp only at h
    cases h
    simp(config:=cS)only[go_sem,eqF h4]
 ·cases h
  simp(config:=cS)only[go_sem,eqF h1]
attribute [go_sem] Tryz.ntmps16 Tryz.results16
theorem AP {a b:GShow}{res:Bool}(h:jy a b=some res):am Tryz.prog 16 [.agg (GShow.encS a),.agg (GShow.encS b)] [] (.lit (.bool res)) []:=by
 refine ai (ra:=[]) (md:=mdT) hT (hi:=hi00) Tryz.func16 rfl rfl (by decide +kernel) (by simp) ?_
 unfold jy at h
 obtain ⟨r01,g1,h⟩:=ae h
 simp(config:=cS)only[go_sem]
 refine ag (yY g1) ?_
 obtain ⟨h2,h⟩|⟨h2,h⟩:=af h
 ·obtain ⟨r02,g3,h⟩:=ae h
  simp(config:=cS)only[go_sem,eZt h2]
  refine ag (AO g3) ?_
  obtain ⟨h4,h⟩|⟨h4,h⟩:=af h
  ·obtain ⟨h5,h⟩|⟨h5,h⟩:=af h
   ·cases h
    simp(config:=cS)only[go_sem,eZt h4,eqT h5]
   ·cases h
    simp(config:=cS)only[go_sem,eZt h4,eqF h5]
  ·cases h
   simp(config:=cS)only[go_sem,eZf h4]
 ·cases h
  simp(config:=cS)only[go_sem,eZf h2]
attribute [go_sem] Tryz.ntmps85 Tryz.results85
theorem yZ {a b:GState}{res:Bool}(h:iL a b=some res):am Tryz.prog 85 [.agg (GState.encS a),.agg (GState.encS b)] [] (.lit (.bool res)) []:=by
 refine ai (ra:=[]) (md:=mdT) hT (hi:=hi00) Tryz.func85 rfl rfl (by decide +kernel) (by simp) ?_
 unfold iL at h
 obtain ⟨h1,h⟩|⟨h1,h⟩:=af h
 ·obtain ⟨r01,g2,h⟩:=ae h
  simp(config:=cS)only[go_sem,eqT h1]
  refine ag (gG g2) ?_
  obtain ⟨h3,h⟩|⟨h3,h⟩:=af h
  ·obtain ⟨r02,g4,h⟩:=ae h
   simp(config:=cS)only[go_sem,eZt h3]
   refine ag (gG g4) ?_
   obtain ⟨h5,h⟩|⟨h5,h⟩:=af h
   ·cases h
    simp(config:=cS)only[go_sem,eZt h5]
   ·cases h
    simp(config:=cS)only[go_sem,eZf h5]
  ·cases h
   simp(config:=cS)only[go_sem,eZf h3]
 ·cases h
  simp(config:=cS)only[go_sem,eqF h1]
attribute [go_sem] Tryz.ntmps77 Tryz.results77
theorem za {a b:GEntry}{res:Bool}(h:iK a b=some res):am Tryz.prog 77 [.agg (GEntry.encS a),.agg (GEntry.encS b)] [] (.lit (.bool res)) []:=by
 refine ai (ra:=[]) (md:=mdT) hT (hi:=hi00) Tryz.func77 rfl rfl (by decide +kernel) (by simp) ?_
 unfold iK at h
 obtain ⟨h1,h⟩|⟨h1,h⟩:=af h
 ·obtain ⟨r01,g2,h⟩:=ae h
  simp(config:=cS)only[go_sem,eqT h1]
  refine ag (gG g2) ?_
  obtain ⟨h3,h⟩|⟨h3,h⟩:=af h
  ·obtain ⟨r02,g4,h⟩:=ae h
   simp(config:=cS)only[go_sem,eZt h3]
   refine ag (gG g4) ?_
   obtain ⟨h5,h⟩|⟨h5,h⟩:=af h
   ·obtain ⟨r03,g6,h⟩:=ae h
    simp(config:=cS)only[go_sem,eZt h5]
    refine ag (gG g6) ?_
    obtain ⟨h7,h⟩|⟨h7,h⟩:=af h
    ·cases h
     simp(config:=cS)only[go_sem,eZt h7]
    ·cases h
     simp(config:=cS)only[go_sem,eZf h7]
   ·cases h
    simp(config:=cS)only[go_sem,eZf h5]
  ·cases h
   simp(config:=cS)only[go_sem,eZf h3]
 ·cases h
  simp(config:=cS)only[go_sem,eqF h1]
def lM (a b:List GEntry)(i:Int):St:=⟨[(0,.sl (ab GEntry.encS a)),(1,.sl (ab GEntry.encS b)),(5,.lit (.int .i64 i))],[],2⟩
attribute [go_sem] lM
@[go_sem] def hi26_6:DT:=.i2 0 (.i2 1 (.i2 2 (.i2 3 (.i2 4 (.i2 5 (.i2 6 (.i2 7 (.i2 8 (.i2 9 .nil)))))))))
def hi26:Hint where
 acts:=fun _=>[]
 draws:=fun
  | 6=>⟨hi26_6,[[],[],[0,1],[0,1,2],[],[],[4,5],[4,5,6],.range 8,.range 9],.range 10⟩
  | _=>⟨.nil,[],[]⟩
theorem Nm (i:Nat):hi26.acts i=[]:=rfl
theorem Nn (i:Nat):hi26.views i=none:=rfl
attribute [go_sem] Nm Nn Tryz.ntmps26 Tryz.results26
@[go_sem] theorem Ou:(hi26.draws 6).order=hi26_6:=rfl
theorem xC {a b:List GEntry}{res:Bool}(h:gY a b=some res):am Tryz.prog 26 [.sl (ab GEntry.encS a),.sl (ab GEntry.encS b)] [] (.lit (.bool res)) []:=by
 refine ai (ra:=[]) (md:=mdT) hT (hi:=hi26) Tryz.func26 rfl rfl (by decide +kernel) (by simp) ?_
 unfold gY at h
 obtain ⟨h1,h⟩|⟨h1,h⟩:=af h
 ·obtain ⟨q04,l2,h⟩:=ae h
  simp(config:=cS)only[go_sem,eqT h1]
  refine aw (m1:=.mk) (m2:=.mk) [.nf [0,1,5] []] (lM a b) l2 ?_ ?_
  ·simp(config:=cS)only[go_sem]
  ·intro nb3 i_1 bb3 b3 gb3
   unfold eV at b3
   try dsimp only at b3
   obtain ⟨h4,b3⟩|⟨h4,b3⟩:=af b3
   ·obtain ⟨x01,g5,b3⟩:=ae b3
    obtain ⟨h6,h7,h8⟩:=ak g5
    obtain ⟨x02,g9,b3⟩:=ae b3
    obtain ⟨h10,h11,h12⟩:=ak g9
    obtain ⟨r03,g13,b3⟩:=ae b3
    simp(config:=cS)only[go_sem,eqT h4,h6,h7,h8,h10,h11,h12]
    refine ag (za g13) ?_
    obtain ⟨h14,b3⟩|⟨h14,b3⟩:=af b3
    ·cases b3
     simp(config:=cS)only[go_sem,eZt h14]
     refine au gb3 ?_
     simp(config:=cS)only[go_sem]
    ·cases b3
     obtain rfl:=(aj gb3).symm
     try dsimp only at h
     cases h
     simp(config:=cS)only[go_sem,eZf h14]
   ·cases b3
    obtain rfl:=(aj gb3).symm
    try dsimp only at h
    cases h
    simp(config:=cS)only[go_sem,eqF h4]
 ·cases h
  simp(config:=cS)only[go_sem,eqF h1]
attribute [go_sem] Tryz.ntmps33 Tryz.results33
theorem AQ {a b:GDesk}{res:Bool}(h:jz a b=some res):am Tryz.prog 33 [.agg (GDesk.encS a),.agg (GDesk.encS b)] [] (.lit (.bool res)) []:=by
 refine ai (ra:=[]) (md:=mdT) hT (hi:=hi00) Tryz.func33 rfl rfl (by decide +kernel) (by simp) ?_
 unfold jz at h
 obtain ⟨r01,g1,h⟩:=ae h
 simp(config:=cS)only[go_sem]
 refine ag (AP g1) ?_
 obtain ⟨h2,h⟩|⟨h2,h⟩:=af h
 ·obtain ⟨r02,g3,h⟩:=ae h
  simp(config:=cS)only[go_sem,eZt h2]
  refine ag (yZ g3) ?_
  obtain ⟨h4,h⟩|⟨h4,h⟩:=af h
  ·obtain ⟨h5,h⟩|⟨h5,h⟩:=af h
   ·obtain ⟨r03,g6,h⟩:=ae h
    simp(config:=cS)only[go_sem,eZt h4,eqT h5]
    refine ag (xC g6) ?_
    obtain ⟨h7,h⟩|⟨h7,h⟩:=af h
    ·cases h
     simp(config:=cS)only[go_sem,eZt h7]
    ·cases h
     simp(config:=cS)only[go_sem,eZf h7]
   ·cases h
    simp(config:=cS)only[go_sem,eZt h4,eqF h5]
  ·cases h
   simp(config:=cS)only[go_sem,eZf h4]
 ·cases h
  simp(config:=cS)only[go_sem,eZf h2]
def qL  : (Int × ByteArray)→St
 | (k,a)=>⟨[(0,.lit (.int .i64 k)),(3,.lit (.string a))],[],2⟩
attribute [go_sem] qL
attribute [go_sem] Tryz.ntmps81 Tryz.results81
def qM (b:Bool)  : (Int × Int × (List Int))→St
 | (k,i,a)=>⟨[(0,.ref 10000 0 0 a.length),(1,.lit (.int .i64 k)),(5,.lit (.int .i64 i))],[(10000,0,.row b (ab eI a))],2⟩
attribute [go_sem] qM
attribute [go_sem] Tryz.ntmps80 Tryz.results80
def qe (b:Bool)  : (Int × Int × (List GNode))→St
 | (k,i,a)=>⟨[(0,.ref 10000 0 0 a.length),(1,.lit (.int .i64 k)),(5,.lit (.int .i64 i))],[(10000,0,.row b (ab GNode.encO a))],2⟩
attribute [go_sem] qe
def hi78:Hint where
 acts:=fun _=>[]
 views:=fun
  | 6=>some (4,1)
  | _=>none
 draws:=fun
  | _=>⟨.nil,[],[]⟩
theorem No (i:Nat):hi78.acts i=[]:=rfl
@[go_sem] theorem Ov:hi78.views 0=none:=rfl
@[go_sem] theorem Ow:hi78.views 1=none:=rfl
@[go_sem] theorem Ox:hi78.views 2=none:=rfl
@[go_sem] theorem Oy:hi78.views 4=none:=rfl
@[go_sem] theorem Oz:hi78.views 5=none:=rfl
@[go_sem] theorem OA:hi78.views 6=some (4,1):=rfl
@[go_sem] theorem OB:hi78.views 7=none:=rfl
@[go_sem] theorem OC:hi78.views 8=none:=rfl
@[go_sem] theorem OD:hi78.views 3=none:=rfl
@[go_sem] theorem OE:hi78.views 9=none:=rfl
attribute [go_sem] No Tryz.ntmps78 Tryz.results78
def qN (b:Bool)  : (Int × Int × (List GTie))→St
 | (k,i,a)=>⟨[(0,.ref 10000 0 0 a.length),(1,.lit (.int .i64 k)),(5,.lit (.int .i64 i))],[(10000,0,.row b (ab GTie.enc a))],2⟩
attribute [go_sem] qN
attribute [go_sem] Tryz.ntmps79 Tryz.results79
attribute [go_sem] Tryz.ntmps27 Tryz.results27
attribute [go_sem] Tryz.ntmps86 Tryz.results86
def pH (b:Bool)  : (Int × Int × (List GEntry))→St
 | (k,i,a)=>⟨[(0,.ref 10000 0 0 a.length),(1,.lit (.int .i64 k)),(5,.lit (.int .i64 i))],[(10000,0,.row b (ab GEntry.encO a))],2⟩
attribute [go_sem] pH
def hi28:Hint where
 acts:=fun _=>[]
 views:=fun
  | 6=>some (4,1)
  | 7=>some (4,1)
  | 8=>some (4,1)
  | _=>none
 draws:=fun
  | _=>⟨.nil,[],[]⟩
theorem Np (i:Nat):hi28.acts i=[]:=rfl
@[go_sem] theorem OF:hi28.views 0=none:=rfl
@[go_sem] theorem OG:hi28.views 1=none:=rfl
@[go_sem] theorem OH:hi28.views 2=none:=rfl
@[go_sem] theorem OI:hi28.views 4=none:=rfl
@[go_sem] theorem OJ:hi28.views 5=none:=rfl
@[go_sem] theorem OK:hi28.views 6=some (4,1):=rfl
@[go_sem] theorem OL:hi28.views 7=some (4,1):=rfl
@[go_sem] theorem OM:hi28.views 8=some (4,1):=rfl
@[go_sem] theorem ON:hi28.views 3=none:=rfl
@[go_sem] theorem OO:hi28.views 9=none:=rfl
attribute [go_sem] Np Tryz.ntmps28 Tryz.results28
attribute [go_sem] Tryz.ntmps34 Tryz.results34
def qO (a:List Int):(Int × Int)→St
 | (k,i)=>⟨[(0,.sl (ab eI a)),(1,.lit (.int .i64 k)),(5,.lit (.int .i64 i))],[],2⟩
attribute [go_sem] qO
attribute [go_sem] Tryz.ntmps158 Tryz.results158
def qf (a:List GNode):(Int × Int)→St
 | (k,i)=>⟨[(0,.sl (ab GNode.encS a)),(1,.lit (.int .i64 k)),(5,.lit (.int .i64 i))],[],2⟩
attribute [go_sem] qf
@[go_sem] def hi156_4:DT:=.i2 0 (.i2 1 (.i1 2 (.i1 3 (.i1 4 (.i2 5 (.i0 6 [2,3,4] (.i2 7 .nil)))))))
def Fx:Hint where
 acts:=fun _=>[]
 draws:=fun
  | 4=>⟨hi156_4,[[],[],[0,1],[0,1,2],[0,1,2,3],[],[5],.range 7],.range 8⟩
  | _=>⟨.nil,[],[]⟩
theorem Ml (i:Nat):Fx.acts i=[]:=rfl
theorem Mm (i:Nat):Fx.views i=none:=rfl
attribute [go_sem] Ml Mm Tryz.ntmps156 Tryz.results156
@[go_sem] theorem Of:(Fx.draws 4).order=hi156_4:=rfl
def qP (a:List GTie):(Int × Int)→St
 | (k,i)=>⟨[(0,.sl (ab GTie.enc a)),(1,.lit (.int .i64 k)),(5,.lit (.int .i64 i))],[],2⟩
attribute [go_sem] qP
attribute [go_sem] Tryz.ntmps157 Tryz.results157
attribute [go_sem] Tryz.ntmps87 Tryz.results87
attribute [go_sem] Tryz.ntmps88 Tryz.results88
def pI (a:List GEntry):(Int × Int)→St
 | (k,i)=>⟨[(0,.sl (ab GEntry.encS a)),(1,.lit (.int .i64 k)),(5,.lit (.int .i64 i))],[],2⟩
attribute [go_sem] pI
attribute [go_sem] Tryz.ntmps89 Tryz.results89
attribute [go_sem] Tryz.ntmps35 Tryz.results35
@[go_sem] def hi6_12:DT:=.i1 0 (.i2 1 (.i0 2 [0] (.i2 3 (.i2 4 .nil))))
def hi6:Hint where
 acts:=fun _=>[]
 draws:=fun
  | 12=>⟨hi6_12,[[],[],[1],[0,1,2],[0,1,2,3]],.range 5⟩
  | _=>⟨.nil,[],[]⟩
theorem hi6a (i:Nat):hi6.acts i=[]:=rfl
theorem hi6v (i:Nat):hi6.views i=none:=rfl
attribute [go_sem] hi6a hi6v Tryz.ntmps6 Tryz.results6
@[go_sem] theorem OP:(hi6.draws 12).order=hi6_12:=rfl
end Go.Proofs.Qc
