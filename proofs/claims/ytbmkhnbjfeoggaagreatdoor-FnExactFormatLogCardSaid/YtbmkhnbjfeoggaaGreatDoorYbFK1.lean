/- Functions. -/
import Derived.Test.YtbmkhnbjfeoggaaGreatDoorYbFK0
set_option linter.all false
set_option maxRecDepth 100000
set_option maxHeartbeats 4000000
namespace Go.Proofs.Qb
open Go
attribute [go_sem] Tryz.ntmps225 Tryz.results225
theorem rV {n:Int}{res:Bool}(h:gQ n=some res):ap Tryz.prog 225 [.lit (.int .i64 n)] [] (.lit (.bool res)) []:=by
 refine aj (ra:=[]) (md:=mdT) hT (hi:=hi00) Tryz.func225 rfl rfl (by decide +kernel) (by simp) ?_
 unfold gQ at h
 obtain ⟨h1,h⟩|⟨h1,h⟩:=af h
 ·cases h
  simp(config:=cS)only[go_sem,eqT h1]
 ·cases h
  simp(config:=cS)only[go_sem,eqF h1]
def kf (c d:List Int)(a b:Int):St:=⟨[(0,.sl (ab eI c)),(1,.sl (ab eI d)),(12,.lit (.int .i64 a)),(13,.lit (.int .i64 b))],[],2⟩
attribute [go_sem] kf
@[go_sem] def hi113_6:DT:=.i2 0 (.i2 1 (.i2 2 (.i2 3 (.i2 4 (.i2 5 (.i2 6 (.i2 7 (.i2 8 .nil))))))))
def BD:Hint where
 acts:=fun _=>[]
 draws:=fun
  | 6=>⟨hi113_6,[[],[],[0,1],[0,1,2],[],[],[4,5],[4,5,6],.range 8],.range 9⟩
  | _=>⟨.nil,[],[]⟩
theorem LK (i:Nat):BD.acts i=[]:=rfl
theorem LL (i:Nat):BD.views i=none:=rfl
attribute [go_sem] LK LL Tryz.ntmps113 Tryz.results113
@[go_sem] theorem NY:(BD.draws 6).order=hi113_6:=rfl
theorem kg {v0 v1:List Int}{res:Bool}(h:ck v0 v1=some res):ap Tryz.prog 113 [.sl (ab eI v0),.sl (ab eI v1)] [] (.lit (.bool res)) []:=by
 refine aj (ra:=[]) (md:=mdT) hT (hi:=BD) Tryz.func113 rfl rfl (by decide +kernel) (by simp) ?_
 unfold ck at h
 obtain ⟨h1,h⟩|⟨h1,h⟩:=af h
 ·obtain ⟨q03,l2,h⟩:=ae h
  simp(config:=cS)only[go_sem,eqT h1]
  refine ao (m1:=.mk) (m2:=.mk) [.nf [0,1,12,13] []] (kf v0 v1 ((v0.length:Nat):Int)) l2 ?_ ?_
  ·simp(config:=cS)only[go_sem]
  ·intro nb3 v13_1 bb3 b3 gb3
   unfold cg at b3
   try dsimp only at b3
   obtain ⟨h4,b3⟩|⟨h4,b3⟩:=af b3
   ·obtain ⟨x01,g5,b3⟩:=ae b3
    obtain ⟨h6,h7,h8⟩:=ai g5
    obtain ⟨x02,g9,b3⟩:=ae b3
    obtain ⟨h10,h11,h12⟩:=ai g9
    obtain ⟨h13,b3⟩|⟨h13,b3⟩:=af b3
    ·cases b3
     simp(config:=cS)only[go_sem,eqT h4,h6,h7,h8,h10,h11,h12,eqT h13]
     refine ar gb3 ?_
     simp(config:=cS)only[go_sem]
    ·cases b3
     obtain rfl:=(al gb3).symm
     try dsimp only at h
     cases h
     simp(config:=cS)only[go_sem,eqT h4,h6,h7,h8,h10,h11,h12,eqF h13]
   ·cases b3
    obtain rfl:=(al gb3).symm
    try dsimp only at h
    cases h
    simp(config:=cS)only[go_sem,eqF h4]
 ·cases h
  simp(config:=cS)only[go_sem,eqF h1]
def iE (c:List GTie)(a:Nat)(b:List AV)(d e:Int):St:=⟨[(0,.sl (ab GTie.enc c)),(1,.fn a b),(7,.lit (.int .i64 d)),(8,.lit (.int .i64 e))],[],2⟩
attribute [go_sem] iE
attribute [go_sem] Tryz.ntmps275 Tryz.results275
theorem lf {v0:List GTie}{v1:GTie→Option Bool}{f_v1:Nat}{k_v1:List AV}(hp_v1:∀ y0 r,v1 y0=some r→ap Tryz.prog f_v1 ([.agg (GTie.enc y0)]++k_v1) [] (.lit (.bool r)) [])(hc_v1:KC k_v1)(hm_v1:∀ a,mdT f_v1 a=⟨[],false⟩)(hk_v1:spf f_v1=false){res:Int}(h:bT v0 v1=some res):ap Tryz.prog 275 [.sl (ab GTie.enc v0),.fn f_v1 k_v1] [] (.lit (.int .i64 res)) []:=by
 refine aj (ra:=[]) (md:=mdT) hT (hi:=hi00) Tryz.func275 rfl rfl (by decide +kernel) (by simp) ?_
 unfold bT at h
 obtain ⟨q03,l1,h⟩:=ae h
 simp(config:=cS)only[go_sem,hc_v1.1,hc_v1.2,hm_v1,hk_v1]
 refine ao (m1:=.mk) (m2:=.mk) [.nf [0,1,7,8] []] (iE v0 f_v1 k_v1 ((v0.length:Nat):Int)) l1 ?_ ?_
 ·simp(config:=cS)only[go_sem,hc_v1.1,hc_v1.2,hm_v1,hk_v1]
 ·intro nb2 v8_1 bb2 b2 gb2
  unfold bw at b2
  try dsimp only at b2
  obtain ⟨h3,b2⟩|⟨h3,b2⟩:=af b2
  ·obtain ⟨x01,g4,b2⟩:=ae b2
   obtain ⟨h5,h6,h7⟩:=ai g4
   obtain ⟨r02,g8,b2⟩:=ae b2
   simp(config:=cS)only[go_sem,hc_v1.1,hc_v1.2,hm_v1,hk_v1,eqT h3,h5,h6,h7]
   refine ag (hp_v1 _ _ g8) ?_
   obtain ⟨h9,b2⟩|⟨h9,b2⟩:=af b2
   ·cases b2
    obtain rfl:=(al gb2).symm
    try dsimp only at h
    cases h
    simp(config:=cS)only[go_sem,hc_v1.1,hc_v1.2,hm_v1,hk_v1,eqT h3,h5,h6,h7,eZt h9]
   ·cases b2
    simp(config:=cS)only[go_sem,hc_v1.1,hc_v1.2,hm_v1,hk_v1,eqT h3,h5,h6,h7,eZf h9]
    refine ar gb2 ?_
    simp(config:=cS)only[go_sem,hc_v1.1,hc_v1.2,hm_v1,hk_v1,eqT h3,h5,h6,h7,eZf h9]
  ·cases b2
   obtain rfl:=(al gb2).symm
   try dsimp only at h
   cases h
   simp(config:=cS)only[go_sem,hc_v1.1,hc_v1.2,hm_v1,hk_v1,eqF h3]
attribute [go_sem] Tryz.ntmps226 Tryz.results226
theorem oU {v0:List GTie}{v1:GTie→Option Bool}{f_v1:Nat}{k_v1:List AV}(hp_v1:∀ y0 r,v1 y0=some r→ap Tryz.prog f_v1 ([.agg (GTie.enc y0)]++k_v1) [] (.lit (.bool r)) [])(hc_v1:KC k_v1)(hm_v1:∀ a,mdT f_v1 a=⟨[],false⟩)(hk_v1:spf f_v1=false){res:Bool}(h:bz v0 v1=some res):ap Tryz.prog 226 [.sl (ab GTie.enc v0),.fn f_v1 k_v1] [] (.lit (.bool res)) []:=by
 refine aj (ra:=[]) (md:=mdT) hT (hi:=hi00) Tryz.func226 rfl rfl (by decide +kernel) (by simp) ?_
 unfold bz at h
 obtain ⟨r01,g1,h⟩:=ae h
 simp(config:=cS)only[go_sem,hc_v1.1,hc_v1.2,hm_v1,hk_v1]
 refine ag (lf hp_v1 hc_v1 hm_v1 hk_v1 g1) ?_
 cases h
 simp(config:=cS)only[go_sem]
attribute [go_sem] Tryz.ntmps227 Tryz.results227
theorem uj {u t:GTie}{res:Bool}(h:fK u t=some res):ap Tryz.prog 227 [.agg (GTie.enc u),.loc [.lit (.int .i64 t.from_),.lit (.int .i64 t.to),.lit (.int .i64 t.low),.lit (.int .i64 t.high),.lit (.bool t.free)]] [] (.lit (.bool res)) []:=by
 refine aj (ra:=[]) (md:=mdT) hT (hi:=hi00) Tryz.func227 rfl rfl (by decide +kernel) (by simp) ?_
 unfold fK at h
 obtain ⟨h1,h⟩|⟨h1,h⟩:=af h
 ·cases h
  simp(config:=cS)only[go_sem,eZt h1]
 ·cases h
  simp(config:=cS)only[go_sem,eZf h1]
def mQ (a:List GTie)(d:Int)(b:List GNode)(c e:Int):St:=⟨[(1,.ptr 64 1 0 0),(6,.sl (ab GTie.enc a)),(7,.lit (.int .i64 d)),(8,.lit (.int .i64 e))],[(64,1,.var [.sl (ab GNode.encS b),.sl (ab GTie.enc a),.lit (.int .i64 c)])],2⟩
attribute [go_sem] mQ
@[go_sem] def hi140_7:DT:=.i2 0 (.i2 1 (.i2 2 (.i2 3 (.i2 4 (.i2 5 (.i2 6 (.i2 7 (.i2 8 (.i2 9 (.i2 10 (.i2 11 (.i2 12 (.i2 13 (.i2 14 (.i2 15 (.i2 16 (.i2 17 (.i2 18 (.i2 19 (.i2 20 (.i2 21 (.i2 22 (.i2 23 (.i2 24 (.i2 25 (.i2 26 (.i2 27 (.i2 28 (.i2 29 (.i2 30 (.i2 31 (.i2 32 (.i2 33 (.i2 34 (.i2 35 .nil)))))))))))))))))))))))))))))))))))
def BE:Hint where
 acts:=fun _=>[]
 draws:=fun
  | 7=>⟨hi140_7,[[],[0],[0,1],[0,1,2],[0,1,2,3],.range 5,.range 6,.range 7,.range 8,.range 9,.range 10,.range 9,[0,1,2,3,4,5,6,7,8,11],.range 13,.range 14,.range 15,.range 16,.range 17,.range 18,.range 19,.range 20,.range 19,[0,1,2,3,4,5,6,7,8,9,10,11,12,13,14,15,16,17,18,21],.range 23,.range 24,.range 25,.range 19,[0,1,2,3,4,5,6,7,8,9,10,11,12,13,14,15,16,17,18,26],.range 19,[0,1,2,3,4,5,6,7,8,9,10,11,12,13,14,15,16,17,18,28],[0,1,2,3,4,5,6,7,8,9,10,11,12,13,14,15,16,17,18,26,27,28,29],[0,1,2,3,4,5,6,7,8,9,10,11,12,13,14,15,16,17,18,26,27,28,29,30],[0,1,2,3,4,5,6,7,8,9,10,11,12,13,14,15,16,17,18,26,27,28,29,30,31],.range 33,.range 34,.range 35],.range 36⟩
  | _=>⟨.nil,[],[]⟩
theorem LM (i:Nat):BE.acts i=[]:=rfl
theorem LN (i:Nat):BE.views i=none:=rfl
attribute [go_sem] LM LN Tryz.ntmps140 Tryz.results140
@[go_sem] theorem NZ:(BE.draws 7).order=hi140_7:=rfl
theorem yR {s:GShow}{res:Bool}(h:iM s=some res):ap Tryz.prog 140 [.agg (GShow.encS s)] [] (.lit (.bool res)) []:=by
 refine aj (ra:=[]) (md:=mdT) hT (hi:=BE) Tryz.func140 rfl rfl (by decide +kernel) (by simp) ?_
 unfold iM at h
 obtain ⟨q10,l1,h⟩:=ae h
 simp(config:=cS)only[go_sem]
 refine ao (m1:=.mk) (m2:=.mk) [.nf [1,6,7,8] [64]] (mQ s.ties ((s.ties.length:Nat):Int) s.nodes s.horizon) l1 ?_ ?_
 ·simp(config:=cS)only[go_sem]
 ·intro nb2 v8_1 bb2 b2 gb2
  unfold dP at b2
  try dsimp only at b2
  obtain ⟨h3,b2⟩|⟨h3,b2⟩:=af b2
  ·obtain ⟨x01,g4,b2⟩:=ae b2
   obtain ⟨h5,h6,h7⟩:=ai g4
   obtain ⟨r02,g8,b2⟩:=ae b2
   simp(config:=cS)only[go_sem,eqT h3,h5,h6,h7]
   refine ag (rU g8) ?_
   obtain ⟨h9,b2⟩|⟨h9,b2⟩:=af b2
   ·obtain ⟨r03,g10,b2⟩:=ae b2
    simp(config:=cS)only[go_sem,eqT h3,h5,h6,h7,eZt h9]
    refine ag (rU g10) ?_
    obtain ⟨h11,b2⟩|⟨h11,b2⟩:=af b2
    ·obtain ⟨h12,b2⟩|⟨h12,b2⟩:=af b2
     ·cases b2
      obtain rfl:=(al gb2).symm
      try dsimp only at h
      cases h
      simp(config:=cS)only[go_sem,eqT h3,h5,h6,h7,eZt h9,eZt h11,eqT h12]
     ·obtain ⟨r04,g14,b2⟩:=ae b2
      simp(config:=cS)only[go_sem,eqT h3,h5,h6,h7,eZt h9,eZt h11,eqF h12]
      refine ag (rV g14) ?_
      obtain ⟨h15,b2⟩|⟨h15,b2⟩:=af b2
      ·obtain ⟨r05,g16,b2⟩:=ae b2
       simp(config:=cS)only[go_sem,eqT h3,h5,h6,h7,eZt h9,eZt h11,eqF h12,eZt h15]
       refine ag (rV g16) ?_
       obtain ⟨h17,b2⟩|⟨h17,b2⟩:=af b2
       ·obtain ⟨h18,b2⟩|⟨h18,b2⟩:=af b2
        ·cases b2
         obtain rfl:=(al gb2).symm
         try dsimp only at h
         cases h
         simp(config:=cS)only[go_sem,eqT h3,h5,h6,h7,eZt h9,eZt h11,eqF h12,eZt h15,eZt h17,eqT h18]
        ·obtain ⟨h20,b2⟩|⟨h20,b2⟩:=af b2
         ·obtain ⟨h21,b2⟩|⟨h21,b2⟩:=af b2
          ·cases b2
           obtain rfl:=(al gb2).symm
           try dsimp only at h
           cases h
           simp(config:=cS)only[go_sem,eqT h3,h5,h6,h7,eZt h9,eZt h11,eqF h12,eZt h15,eZt h17,eqF h18,eZt h20,eqT h21]
          ·obtain ⟨h23,b2⟩|⟨h23,b2⟩:=af b2
           ·cases b2
            obtain rfl:=(al gb2).symm
            try dsimp only at h
            cases h
            simp(config:=cS)only[go_sem,eqT h3,h5,h6,h7,eZt h9,eZt h11,eqF h12,eZt h15,eZt h17,eqF h18,eZt h20,eqF h21,eqT h23]
           ·obtain ⟨x06,g25,b2⟩:=ae b2
            obtain ⟨h26,h27,h28⟩:=ai g25
            obtain ⟨h29,b2⟩|⟨h29,b2⟩:=af b2
            ·obtain ⟨x07,g30,b2⟩:=ae b2
             obtain ⟨h31,h32,h33⟩:=ai g30
             obtain ⟨r08,g34,b2⟩:=ae b2
             simp(config:=cS)only[go_sem,eqT h3,h5,h6,h7,eZt h9,eZt h11,eqF h12,eZt h15,eZt h17,eqF h18,eZt h20,eqF h21,eqF h23,h26,h27,h28,eqT h29,h31,h32,h33]
             refine ag (kg g34) ?_
             obtain ⟨h35,b2⟩|⟨h35,b2⟩:=af b2
             ·obtain ⟨h36,b2⟩:=ak b2
              obtain ⟨h37,b2⟩:=ak b2
              obtain ⟨r09,g38,b2⟩:=ae b2
              simp(config:=cS)only[go_sem,eqT h3,h5,h6,h7,eZt h9,eZt h11,eqF h12,eZt h15,eZt h17,eqF h18,eZt h20,eqF h21,eqF h23,h26,h27,h28,eqT h29,h31,h32,h33,eZt h35,eqT h36,eqT h37]
              refine ag (oU (by exact fun _ _ hr=>uj hr) (by refine ⟨fun _=>?_,fun _=>?_⟩ <;> simp only [go_sem]) (fun _=>rfl) rfl g38) ?_
              obtain ⟨h39,b2⟩|⟨h39,b2⟩:=af b2
              ·cases b2
               obtain rfl:=(al gb2).symm
               try dsimp only at h
               cases h
               simp(config:=cS)only[go_sem,eqT h3,h5,h6,h7,eZt h9,eZt h11,eqF h12,eZt h15,eZt h17,eqF h18,eZt h20,eqF h21,eqF h23,h26,h27,h28,eqT h29,h31,h32,h33,eZt h35,eqT h36,eqT h37,eZt h39]
              ·cases b2
               simp(config:=cS)only[go_sem,eqT h3,h5,h6,h7,eZt h9,eZt h11,eqF h12,eZt h15,eZt h17,eqF h18,eZt h20,eqF h21,eqF h23,h26,h27,h28,eqT h29,h31,h32,h33,eZt h35,eqT h36,eqT h37,eZf h39]
               refine ar gb2 ?_
               simp(config:=cS)only[go_sem,eqT h3,h5,h6,h7,eZt h9,eZt h11,eqF h12,eZt h15,eZt h17,eqF h18,eZt h20,eqF h21,eqF h23,h26,h27,h28,eqT h29,h31,h32,h33,eZt h35,eqT h36,eqT h37,eZf h39]
             ·cases b2
              obtain rfl:=(al gb2).symm
              try dsimp only at h
              cases h
              simp(config:=cS)only[go_sem,eqT h3,h5,h6,h7,eZt h9,eZt h11,eqF h12,eZt h15,eZt h17,eqF h18,eZt h20,eqF h21,eqF h23,h26,h27,h28,eqT h29,h31,h32,h33,eZf h35]
            ·cases b2
             obtain rfl:=(al gb2).symm
             try dsimp only at h
             cases h
             simp(config:=cS)only[go_sem,eqT h3,h5,h6,h7,eZt h9,eZt h11,eqF h12,eZt h15,eZt h17,eqF h18,eZt h20,eqF h21,eqF h23,h26,h27,h28,eqF h29]
         ·cases b2
          simp(config:=cS)only[go_sem,eqT h3,h5,h6,h7,eZt h9,eZt h11,eqF h12,eZt h15,eZt h17,eqF h18,eZf h20]
          refine ar gb2 ?_
          simp(config:=cS)only[go_sem,eqT h3,h5,h6,h7,eZt h9,eZt h11,eqF h12,eZt h15,eZt h17,eqF h18,eZf h20]
       ·cases b2
        obtain rfl:=(al gb2).symm
        try dsimp only at h
        cases h
        simp(config:=cS)only[go_sem,eqT h3,h5,h6,h7,eZt h9,eZt h11,eqF h12,eZt h15,eZf h17]
      ·cases b2
       obtain rfl:=(al gb2).symm
       try dsimp only at h
       cases h
       simp(config:=cS)only[go_sem,eqT h3,h5,h6,h7,eZt h9,eZt h11,eqF h12,eZf h15]
    ·cases b2
     obtain rfl:=(al gb2).symm
     try dsimp only at h
     cases h
     simp(config:=cS)only[go_sem,eqT h3,h5,h6,h7,eZt h9,eZf h11]
   ·cases b2
    obtain rfl:=(al gb2).symm
    try dsimp only at h
    cases h
    simp(config:=cS)only[go_sem,eqT h3,h5,h6,h7,eZf h9]
  ·cases b2
   obtain rfl:=(al gb2).symm
   try dsimp only at h
   cases h
   simp(config:=cS)only[go_sem,eqF h3]
def iF (c:List Int)(a:Nat)(b:List AV)(d e:Int):St:=⟨[(0,.sl (ab eI c)),(1,.fn a b),(7,.lit (.int .i64 d)),(8,.lit (.int .i64 e))],[],2⟩
attribute [go_sem] iF
attribute [go_sem] Tryz.ntmps228 Tryz.results228
theorem lg {v0:List Int}{v1:Int→Option Bool}{f_v1:Nat}{k_v1:List AV}(hp_v1:∀ y0 r,v1 y0=some r→ap Tryz.prog f_v1 ([.lit (.int .i64 y0)]++k_v1) [] (.lit (.bool r)) [])(hc_v1:KC k_v1)(hm_v1:∀ a,mdT f_v1 a=⟨[],false⟩)(hk_v1:spf f_v1=false){res:Int}(h:bU v0 v1=some res):ap Tryz.prog 228 [.sl (ab eI v0),.fn f_v1 k_v1] [] (.lit (.int .i64 res)) []:=by
 refine aj (ra:=[]) (md:=mdT) hT (hi:=hi00) Tryz.func228 rfl rfl (by decide +kernel) (by simp) ?_
 unfold bU at h
 obtain ⟨q03,l1,h⟩:=ae h
 simp(config:=cS)only[go_sem,hc_v1.1,hc_v1.2,hm_v1,hk_v1]
 refine ao (m1:=.mk) (m2:=.mk) [.nf [0,1,7,8] []] (iF v0 f_v1 k_v1 ((v0.length:Nat):Int)) l1 ?_ ?_
 ·simp(config:=cS)only[go_sem,hc_v1.1,hc_v1.2,hm_v1,hk_v1]
 ·intro nb2 v8_1 bb2 b2 gb2
  unfold bA at b2
  try dsimp only at b2
  obtain ⟨h3,b2⟩|⟨h3,b2⟩:=af b2
  ·obtain ⟨x01,g4,b2⟩:=ae b2
   obtain ⟨h5,h6,h7⟩:=ai g4
   obtain ⟨r02,g8,b2⟩:=ae b2
   simp(config:=cS)only[go_sem,hc_v1.1,hc_v1.2,hm_v1,hk_v1,eqT h3,h5,h6,h7]
   refine ag (hp_v1 _ _ g8) ?_
   obtain ⟨h9,b2⟩|⟨h9,b2⟩:=af b2
   ·cases b2
    obtain rfl:=(al gb2).symm
    try dsimp only at h
    cases h
    simp(config:=cS)only[go_sem,hc_v1.1,hc_v1.2,hm_v1,hk_v1,eqT h3,h5,h6,h7,eZt h9]
   ·cases b2
    simp(config:=cS)only[go_sem,hc_v1.1,hc_v1.2,hm_v1,hk_v1,eqT h3,h5,h6,h7,eZf h9]
    refine ar gb2 ?_
    simp(config:=cS)only[go_sem,hc_v1.1,hc_v1.2,hm_v1,hk_v1,eqT h3,h5,h6,h7,eZf h9]
  ·cases b2
   obtain rfl:=(al gb2).symm
   try dsimp only at h
   cases h
   simp(config:=cS)only[go_sem,hc_v1.1,hc_v1.2,hm_v1,hk_v1,eqF h3]
attribute [go_sem] Tryz.ntmps141 Tryz.results141
theorem fW {v0:List Int}{v1:Int→Option Bool}{f_v1:Nat}{k_v1:List AV}(hp_v1:∀ y0 r,v1 y0=some r→ap Tryz.prog f_v1 ([.lit (.int .i64 y0)]++k_v1) [] (.lit (.bool r)) [])(hc_v1:KC k_v1)(hm_v1:∀ a,mdT f_v1 a=⟨[],false⟩)(hk_v1:spf f_v1=false){res:Bool}(h:ba v0 v1=some res):ap Tryz.prog 141 [.sl (ab eI v0),.fn f_v1 k_v1] [] (.lit (.bool res)) []:=by
 refine aj (ra:=[]) (md:=mdT) hT (hi:=hi00) Tryz.func141 rfl rfl (by decide +kernel) (by simp) ?_
 unfold ba at h
 obtain ⟨r01,g1,h⟩:=ae h
 simp(config:=cS)only[go_sem,hc_v1.1,hc_v1.2,hm_v1,hk_v1]
 refine ag (lg hp_v1 hc_v1 hm_v1 hk_v1 g1) ?_
 cases h
 simp(config:=cS)only[go_sem]
def io (c:List GNode)(a:Nat)(b:List AV)(d e:Int):St:=⟨[(0,.sl (ab GNode.encS c)),(1,.fn a b),(7,.lit (.int .i64 d)),(8,.lit (.int .i64 e))],[],2⟩
attribute [go_sem] io
attribute [go_sem] Tryz.ntmps231 Tryz.results231
theorem pJ {v0:List GNode}{v1:GNode→Option Bool}{f_v1:Nat}{k_v1:List AV}(hp_v1:∀ y0 r,v1 y0=some r→ap Tryz.prog f_v1 ([.agg (GNode.encS y0)]++k_v1) [] (.lit (.bool r)) [])(hc_v1:KC k_v1)(hm_v1:∀ a,mdT f_v1 a=⟨[],false⟩)(hk_v1:spf f_v1=false){res:Int}(h:cz v0 v1=some res):ap Tryz.prog 231 [.sl (ab GNode.encS v0),.fn f_v1 k_v1] [] (.lit (.int .i64 res)) []:=by
 refine aj (ra:=[]) (md:=mdT) hT (hi:=hi00) Tryz.func231 rfl rfl (by decide +kernel) (by simp) ?_
 unfold cz at h
 obtain ⟨q03,l1,h⟩:=ae h
 simp(config:=cS)only[go_sem,hc_v1.1,hc_v1.2,hm_v1,hk_v1]
 refine ao (m1:=.mk) (m2:=.mk) [.nf [0,1,7,8] []] (io v0 f_v1 k_v1 ((v0.length:Nat):Int)) l1 ?_ ?_
 ·simp(config:=cS)only[go_sem,hc_v1.1,hc_v1.2,hm_v1,hk_v1]
 ·intro nb2 v8_1 bb2 b2 gb2
  unfold br at b2
  try dsimp only at b2
  obtain ⟨h3,b2⟩|⟨h3,b2⟩:=af b2
  ·obtain ⟨x01,g4,b2⟩:=ae b2
   obtain ⟨h5,h6,h7⟩:=ai g4
   obtain ⟨r02,g8,b2⟩:=ae b2
   simp(config:=cS)only[go_sem,hc_v1.1,hc_v1.2,hm_v1,hk_v1,eqT h3,h5,h6,h7]
   refine ag (hp_v1 _ _ g8) ?_
   obtain ⟨h9,b2⟩|⟨h9,b2⟩:=af b2
   ·cases b2
    obtain rfl:=(al gb2).symm
    try dsimp only at h
    cases h
    simp(config:=cS)only[go_sem,hc_v1.1,hc_v1.2,hm_v1,hk_v1,eqT h3,h5,h6,h7,eZt h9]
   ·cases b2
    simp(config:=cS)only[go_sem,hc_v1.1,hc_v1.2,hm_v1,hk_v1,eqT h3,h5,h6,h7,eZf h9]
    refine ar gb2 ?_
    simp(config:=cS)only[go_sem,hc_v1.1,hc_v1.2,hm_v1,hk_v1,eqT h3,h5,h6,h7,eZf h9]
  ·cases b2
   obtain rfl:=(al gb2).symm
   try dsimp only at h
   cases h
   simp(config:=cS)only[go_sem,hc_v1.1,hc_v1.2,hm_v1,hk_v1,eqF h3]
attribute [go_sem] Tryz.ntmps232 Tryz.results232
theorem uk {n:GNode}{p:Int}{res:Bool}(h:iv n p=some res):ap Tryz.prog 232 [.agg (GNode.encS n),.loc [.lit (.int .i64 p)]] [] (.lit (.bool res)) []:=by
 refine aj (ra:=[]) (md:=mdT) hT (hi:=hi00) Tryz.func232 rfl rfl (by decide +kernel) (by simp) ?_
 unfold iv at h
 obtain ⟨h1,h⟩|⟨h1,h⟩:=af h
 ·cases h
  simp(config:=cS)only[go_sem,eqT h1]
 ·cases h
  simp(config:=cS)only[go_sem,eqF h1]
attribute [go_sem] Tryz.ntmps145 Tryz.results145
theorem yS {s:GShow}{p res:Int}(h:iN s p=some res):ap Tryz.prog 145 [.agg (GShow.encS s),.lit (.int .i64 p)] [] (.lit (.int .i64 res)) []:=by
 refine aj (ra:=[]) (md:=mdT) hT (hi:=hi00) Tryz.func145 rfl rfl (by decide +kernel) (by simp) ?_
 unfold iN at h
 obtain ⟨r01,g1,h⟩:=ae h
 simp(config:=cS)only[go_sem]
 refine ag (pJ (by exact fun _ _ hr=>uk hr) (by refine ⟨fun _=>?_,fun _=>?_⟩ <;> simp only [go_sem]) (fun _=>rfl) rfl g1) ?_
 cases h
 simp(config:=cS)only[go_sem]
def kh (a:List Int)(b c d:Int):St:=⟨[(0,.sl (ab eI a)),(1,.lit (.int .i64 b)),(7,.lit (.int .i64 c)),(8,.lit (.int .i64 d))],[],2⟩
attribute [go_sem] kh
attribute [go_sem] Tryz.ntmps189 Tryz.results189
theorem sW {v0:List Int}{v1 res:Int}(h:fj v0 v1=some res):ap Tryz.prog 189 [.sl (ab eI v0),.lit (.int .i64 v1)] [] (.lit (.int .i64 res)) []:=by
 refine aj (ra:=[]) (md:=mdT) hT (hi:=hi00) Tryz.func189 rfl rfl (by decide +kernel) (by simp) ?_
 unfold fj at h
 obtain ⟨q02,l1,h⟩:=ae h
 simp(config:=cS)only[go_sem]
 refine ao (m1:=.mk) (m2:=.mk) [.nf [0,1,7,8] []] (kh v0 v1 ((v0.length:Nat):Int)) l1 ?_ ?_
 ·simp(config:=cS)only[go_sem]
 ·intro nb2 v8_1 bb2 b2 gb2
  unfold ch at b2
  try dsimp only at b2
  obtain ⟨h3,b2⟩|⟨h3,b2⟩:=af b2
  ·obtain ⟨x01,g4,b2⟩:=ae b2
   obtain ⟨h5,h6,h7⟩:=ai g4
   obtain ⟨h8,b2⟩|⟨h8,b2⟩:=af b2
   ·cases b2
    obtain rfl:=(al gb2).symm
    try dsimp only at h
    cases h
    simp(config:=cS)only[go_sem,eqT h3,h5,h6,h7,eqT h8]
   ·cases b2
    simp(config:=cS)only[go_sem,eqT h3,h5,h6,h7,eqF h8]
    refine ar gb2 ?_
    simp(config:=cS)only[go_sem]
  ·cases b2
   obtain rfl:=(al gb2).symm
   try dsimp only at h
   cases h
   simp(config:=cS)only[go_sem,eqF h3]
attribute [go_sem] Tryz.ntmps229 Tryz.results229
theorem iG {v0:List Int}{v1:Int}{res:Bool}(h:bF v0 v1=some res):ap Tryz.prog 229 [.sl (ab eI v0),.lit (.int .i64 v1)] [] (.lit (.bool res)) []:=by
 refine aj (ra:=[]) (md:=mdT) hT (hi:=hi00) Tryz.func229 rfl rfl (by decide +kernel) (by simp) ?_
 unfold bF at h
 obtain ⟨r01,g1,h⟩:=ae h
 simp(config:=cS)only[go_sem]
 refine ag (sW g1) ?_
 cases h
 simp(config:=cS)only[go_sem]
attribute [go_sem] Tryz.ntmps276 Tryz.results276
theorem qk {v0:Int}{a:List Int}{res:Bool}(h:eW v0 a=some res):ap Tryz.prog 276 [.lit (.int .i64 v0),.loc [.sl (ab eI a)]] [] (.lit (.bool res)) []:=by
 refine aj (ra:=[]) (md:=mdT) hT (hi:=hi00) Tryz.func276 rfl rfl (by decide +kernel) (by simp) ?_
 unfold eW at h
 obtain ⟨r01,g1,h⟩:=ae h
 simp(config:=cS)only[go_sem]
 refine ag (iG g1) ?_
 cases h
 simp(config:=cS)only[go_sem]
attribute [go_sem] Tryz.ntmps230 Tryz.results230
theorem sd {a b:List Int}{res:Bool}(h:eo a b=some res):ap Tryz.prog 230 [.sl (ab eI a),.sl (ab eI b)] [] (.lit (.bool res)) []:=by
 refine aj (ra:=[]) (md:=mdT) hT (hi:=hi00) Tryz.func230 rfl rfl (by decide +kernel) (by simp) ?_
 unfold eo at h
 obtain ⟨r01,g1,h⟩:=ae h
 simp(config:=cS)only[go_sem]
 refine ag (gj g1) ?_
 obtain ⟨h2,h⟩|⟨h2,h⟩:=af h
 ·obtain ⟨r02,g3,h⟩:=ae h
  simp(config:=cS)only[go_sem,eZt h2]
  refine ag (gj g3) ?_
  obtain ⟨h4,h⟩|⟨h4,h⟩:=af h
  ·obtain ⟨r03,g5,h⟩:=ae h
   simp(config:=cS)only[go_sem,eZt h2,eZt h4]
   refine ag (fW (by exact fun _ _ hr=>qk hr) (by refine ⟨fun _=>?_,fun _=>?_⟩ <;> simp only [go_sem]) (fun _=>rfl) rfl g5) ?_
   cases h
   simp(config:=cS)only[go_sem,eZt h2,eZt h4]
  ·cases h
   simp(config:=cS)only[go_sem,eZt h2,eZf h4]
 ·cases h
  simp(config:=cS)only[go_sem,eZf h2]
@[go_sem] def hi143_1:DT:=.i1 0 (.i2 1 (.i0 2 [0] (.i2 3 (.i2 4 .nil))))
def BF:Hint where
 acts:=fun _=>[]
 draws:=fun
  | 1=>⟨hi143_1,[[],[],[1],[0,1,2],[0,1,2,3]],.range 5⟩
  | _=>⟨.nil,[],[]⟩
theorem LO (i:Nat):BF.acts i=[]:=rfl
theorem LP (i:Nat):BF.views i=none:=rfl
attribute [go_sem] LO LP Tryz.ntmps143 Tryz.results143
@[go_sem] theorem Oa:(BF.draws 1).order=hi143_1:=rfl
theorem vI {s:GShow}{label:List Int}{v2:Int}{res:Bool}(h:gE s label v2=some res):ap Tryz.prog 143 [.agg (GShow.encS s),.sl (ab eI label),.lit (.int .i64 v2)] [] (.lit (.bool res)) []:=by
 refine aj (ra:=[]) (md:=mdT) hT (hi:=BF) Tryz.func143 rfl rfl (by decide +kernel) (by simp) ?_
 unfold gE at h
 obtain ⟨r01,g1,h⟩:=ae h
 simp(config:=cS)only[go_sem]
 refine ag (fD g1) ?_
 obtain ⟨r02,g2,h⟩:=ae h
 simp(config:=cS)only[go_sem]
 refine ag (yS g2) ?_
 obtain ⟨h3,h⟩|⟨h3,h⟩:=af h
 ·cases h
  simp(config:=cS)only[go_sem,eqT h3]
 ·obtain ⟨x03,g4,h⟩:=ae h
  obtain ⟨h5,h6,h7⟩:=ai g4
  obtain ⟨r04,g8,h⟩:=ae h
  simp(config:=cS)only[go_sem,eqF h3,h5,h6,h7]
  refine ag (iG g8) ?_
  obtain ⟨h9,h⟩|⟨h9,h⟩:=af h
  ·cases h
   simp(config:=cS)only[go_sem,eqF h3,h5,h6,h7,eZt h9]
  ·obtain ⟨r05,g10,h⟩:=ae h
   simp(config:=cS)only[go_sem,eqF h3,h5,h6,h7,eZf h9]
   refine ag (iG g10) ?_
   obtain ⟨h11,h⟩|⟨h11,h⟩:=af h
   ·cases h
    simp(config:=cS)only[go_sem,eqF h3,h5,h6,h7,eZf h9,eZt h11]
   ·obtain ⟨r06,g12,h⟩:=ae h
    simp(config:=cS)only[go_sem,eqF h3,h5,h6,h7,eZf h9,eZf h11]
    refine ag (sd g12) ?_
    cases h
    simp(config:=cS)only[go_sem,eqF h3,h5,h6,h7,eZf h9,eZf h11]
attribute [go_sem] Tryz.ntmps142 Tryz.results142
theorem vJ {v0:Int}{s:GShow}{n:GNode}{res:Bool}(h:gF v0 s n=some res):ap Tryz.prog 142 [.lit (.int .i64 v0),.loc [.sl (ab GNode.encS s.nodes),.sl (ab GTie.enc s.ties),.lit (.int .i64 s.horizon)],.loc [.lit (.string n.name),.sl (ab eI n.label),.lit (.int .i64 n.watch)]] [] (.lit (.bool res)) []:=by
 refine aj (ra:=[]) (md:=mdT) hT (hi:=hi00) Tryz.func142 rfl rfl (by decide +kernel) (by simp) ?_
 unfold gF at h
 obtain ⟨r01,g1,h⟩:=ae h
 simp(config:=cS)only[go_sem]
 refine ag (vI g1) ?_
 cases h
 simp(config:=cS)only[go_sem]
def np (a:List GNode)(b:Int)(c:List GTie)(d e:Int):St:=⟨[(1,.ptr 64 1 0 0),(24,.sl (ab GNode.encS a)),(25,.lit (.int .i64 b)),(26,.lit (.int .i64 e))],[(64,1,.var [.sl (ab GNode.encS a),.sl (ab GTie.enc c),.lit (.int .i64 d)])],2⟩
attribute [go_sem] np
attribute [go_sem] Tryz.ntmps67 Tryz.results67
theorem rW {s:GShow}{res:Bool}(h:gR s=some res):ap Tryz.prog 67 [.agg (GShow.encS s)] [] (.lit (.bool res)) []:=by
 refine aj (ra:=[]) (md:=mdT) hT (hi:=hi00) Tryz.func67 rfl rfl (by decide +kernel) (by simp) ?_
 unfold gR at h
 obtain ⟨r01,g1,h⟩:=ae h
 simp(config:=cS)only[go_sem]
 refine ag (xD g1) ?_
 obtain ⟨h2,h⟩|⟨h2,h⟩:=af h
 ·obtain ⟨r02,g3,h⟩:=ae h
  simp(config:=cS)only[go_sem,eZt h2]
  refine ag (yR g3) ?_
  obtain ⟨h4,h⟩|⟨h4,h⟩:=af h
  ·obtain ⟨h5,h⟩|⟨h5,h⟩:=af h
   ·cases h
    simp(config:=cS)only[go_sem,eZt h2,eZt h4,eqT h5]
   ·obtain ⟨h6,h⟩|⟨h6,h⟩:=af h
    ·cases h
     simp(config:=cS)only[go_sem,eZt h2,eZt h4,eqF h5,eqT h6]
    ·obtain ⟨q05,l7,h⟩:=ae h
     simp(config:=cS)only[go_sem,eZt h2,eZt h4,eqF h5,eqF h6]
     refine ao (m1:=.mk) (m2:=.mk) [.nf [1,24,25,26] [64]] (np s.nodes ((s.nodes.length:Nat):Int) s.ties s.horizon) l7 ?_ ?_
     ·simp(config:=cS)only[go_sem,eZt h2,eZt h4,eqF h5,eqF h6]
     ·intro nb8 v26_1 bb8 b8 gb8
      unfold eQ at b8
      try dsimp only at b8
      obtain ⟨h9,b8⟩|⟨h9,b8⟩:=af b8
      ·obtain ⟨x03,g10,b8⟩:=ae b8
       obtain ⟨h11,h12,h13⟩:=ai g10
       obtain ⟨r04,g14,b8⟩:=ae b8
       simp(config:=cS)only[go_sem,eZt h2,eZt h4,eqF h5,eqF h6,eqT h9,h11,h12,h13]
       refine ag (fW (by exact fun _ _ hr=>vJ hr) (by refine ⟨fun _=>?_,fun _=>?_⟩ <;> simp only [go_sem]) (fun _=>rfl) rfl g14) ?_
       obtain ⟨h15,b8⟩|⟨h15,b8⟩:=af b8
       ·cases b8
        obtain rfl:=(al gb8).symm
        try dsimp only at h
        cases h
        simp(config:=cS)only[go_sem,eZt h2,eZt h4,eqF h5,eqF h6,eqT h9,h11,h12,h13,eZt h15]
       ·cases b8
        simp(config:=cS)only[go_sem,eZt h2,eZt h4,eqF h5,eqF h6,eqT h9,h11,h12,h13,eZf h15]
        refine ar gb8 ?_
        simp(config:=cS)only[go_sem,eZt h2,eZt h4,eqF h5,eqF h6,eqT h9,h11,h12,h13,eZf h15]
      ·cases b8
       obtain rfl:=(al gb8).symm
       try dsimp only at h
       cases h
       simp(config:=cS)only[go_sem,eZt h2,eZt h4,eqF h5,eqF h6,eqF h9]
  ·cases h
   simp(config:=cS)only[go_sem,eZt h2,eZf h4]
 ·cases h
  simp(config:=cS)only[go_sem,eZf h2]
attribute [go_sem] Tryz.ntmps301 Tryz.results301
theorem Cw {v0 y:Int}{res:Int × Int}(h:px v0 y=some res):ap Tryz.prog 301 [.lit (.int .u64 v0),.lit (.int .u64 y)] [] (.tup [.lit (.int .u64 res.1),.lit (.int .u64 res.2)]) []:=by
 refine aj (ra:=[]) (md:=mdT) hT (hi:=hi00) Tryz.func301 rfl rfl (by decide +kernel) (by simp) ?_
 unfold px at h
 cases h
 simp(config:=cS)only[go_sem]
attribute [go_sem] Tryz.ntmps261 Tryz.results261
theorem Fu {v0 y:Int}{res:Int × Int}(h:eX v0 y=some res):ap Tryz.prog 261 [.lit (.int .u64 v0),.lit (.int .u64 y)] [] (.tup [.lit (.int .u64 res.1),.lit (.int .u64 res.2)]) []:=by
 refine aj (ra:=[]) (md:=mdT) hT (hi:=hi00) Tryz.func261 rfl rfl (by decide +kernel) (by simp) ?_
 unfold eX at h
 obtain ⟨r01,g1,h⟩:=ae h
 simp(config:=cS)only[go_sem]
 refine ag (Cw g1) ?_
 cases h
 simp(config:=cS)only[go_sem]
def jM  : (Int × (List Int))→St
 | (b,a)=>⟨[(7,.ref 1920 1 0 a.length),(8,.lit (.int .i64 b))],[(1920,1,.row true (ab eI a))],2⟩
attribute [go_sem] jM
@[go_sem] def hi190_9:DT:=.i2 0 (.i2 1 (.i2 2 (.i2 3 (.i2 4 (.i2 5 (.i2 6 (.i2 7 (.i2 8 (.i2 9 .nil)))))))))
def BG:Hint where
 acts:=fun _=>[]
 draws:=fun
  | 9=>⟨hi190_9,[[],[],[],[1,2],[],[],[4,5],[1,2,3,4,5,6],.range 8,.range 9],.range 10⟩
  | _=>⟨.nil,[],[]⟩
theorem LQ (i:Nat):BG.acts i=[]:=rfl
theorem LR (i:Nat):BG.views i=none:=rfl
attribute [go_sem] LQ LR Tryz.ntmps190 Tryz.results190
@[go_sem] theorem Ob:(BG.draws 9).order=hi190_9:=rfl
theorem aZ {v0:List Int}{v1:Int}{res:List Int}(h:aH v0 v1=some res):ap Tryz.prog 190 [.sl (ab eI v0),.lit (.int .i64 v1)] [] (.ref 20000 1 0 res.length) [(20000,1,.row true (ab eI res))]:=by
 refine aj (ra:=[.home 4]) (md:=mdT) hT (hi:=BG) Tryz.func190 rfl rfl (by decide +kernel) (by simp) ?_
 unfold aH at h
 obtain ⟨h1,h⟩|⟨h1,h⟩:=af h
 ·cases h
 ·obtain ⟨r01,g2,h⟩:=ae h
  simp(config:=cS)only[go_sem,eqF h1]
  refine ag (Fu g2) ?_
  obtain ⟨h3,h⟩|⟨h3,h⟩:=af h
  ·cases h
  ·obtain ⟨h4,h⟩|⟨h4,h⟩:=af h
   ·cases h
   ·obtain ⟨h5,h⟩:=ak h
    obtain ⟨h6,h⟩:=ak h
    obtain ⟨h7,h⟩:=ak h
    obtain ⟨q02,l8,h⟩:=ae h
    simp(config:=cS)only[go_sem,eqF h3,eqF h4,eqT h5,eqT h6,eqT h7]
    refine ao (m1:=.mk) (m2:=.mk) [.nf [7,8] [1920]] (jM) l8 ?_ ?_
    ·simp(config:=cS)only[go_sem]
    ·intro nb9 sb9 bb9 b9 gb9
     obtain ⟨v8_1,v7_1⟩:=sb9
     unfold ay at b9
     try dsimp only at b9
     obtain ⟨h10,b9⟩|⟨h10,b9⟩:=af b9
     ·obtain ⟨h11,b9⟩:=ak b9
      obtain ⟨h12,b9⟩:=ak b9
      obtain ⟨h13,b9⟩:=ak b9
      cases b9
      simp(config:=cS)only[go_sem,eqT h10,eqT h11,eqT h12,eqT h13]
      refine ar gb9 ?_
      simp(config:=cS)only[go_sem]
     ·cases b9
      obtain rfl:=(al gb9).symm
      try dsimp only at h
      cases h
      simp(config:=cS)only[go_sem,eqF h10]
@[go_sem] def hi109_3:DT:=.i1 1 (.i1 2 (.i1 3 (.fork (.i0 0 [1,2,3] (.fork (.i2 4 (.fork (.i0 5 [1,2,3] (.i2 6 (.i0 7 [1,2,3] (.i2 8 .nil)))) (.i0 7 [1,2,3] (.i0 5 [1,2,3] (.i2 6 (.i2 8 .nil)))))) (.fork (.i0 5 [1,2,3] (.fork (.i2 4 (.i2 6 (.i0 7 [1,2,3] (.i2 8 .nil)))) (.i0 7 [1,2,3] (.i2 4 (.i2 6 (.i2 8 .nil)))))) (.i0 7 [1,2,3] (.fork (.i2 4 (.i0 5 [1,2,3] (.i2 6 (.i2 8 .nil)))) (.i0 5 [1,2,3] (.i2 4 (.i2 6 (.i2 8 .nil))))))))) (.fork (.i0 5 [1,2,3] (.fork (.i0 0 [1,2,3] (.fork (.i2 4 (.i2 6 (.i0 7 [1,2,3] (.i2 8 .nil)))) (.i0 7 [1,2,3] (.i2 4 (.i2 6 (.i2 8 .nil)))))) (.i0 7 [1,2,3] (.i0 0 [1,2,3] (.i2 4 (.i2 6 (.i2 8 .nil))))))) (.i0 7 [1,2,3] (.fork (.i0 0 [1,2,3] (.fork (.i2 4 (.i0 5 [1,2,3] (.i2 6 (.i2 8 .nil)))) (.i0 5 [1,2,3] (.i2 4 (.i2 6 (.i2 8 .nil)))))) (.i0 5 [1,2,3] (.i0 0 [1,2,3] (.i2 4 (.i2 6 (.i2 8 .nil)))))))))))
def BH:Hint where
 acts:=fun _=>[]
 draws:=fun
  | 3=>⟨hi109_3,[[],[],[1],[1,2],[0,1,2,3],[],.range 6,[],.range 8],.range 9⟩
  | _=>⟨.nil,[],[]⟩
theorem LS (i:Nat):BH.acts i=[]:=rfl
theorem LT (i:Nat):BH.views i=none:=rfl
attribute [go_sem] LS LT Tryz.ntmps109 Tryz.results109
@[go_sem] theorem Oc:(BH.draws 3).order=hi109_3:=rfl
theorem ul {s:GShow}{res:GState}(h:fL s=some res):ap Tryz.prog 109 [.agg (GShow.encS s)] [] (.agg [.lit (.int .i64 res.now),.ref 20000 1 0 res.times.length,.ref 20001 1 0 res.values.length]) [(20000,1,.row true (ab eI res.times)),(20001,1,.row true (ab eI res.values))]:=by
 refine aj (ra:=[.homeCell 128 1,.homeCell 128 2]) (md:=mdT) hT (hi:=BH) Tryz.func109 rfl rfl (by decide +kernel) (by simp) ?_
 unfold fL at h
 obtain ⟨r01,g1,h⟩:=ae h
 simp(config:=cS)only[go_sem]
 refine ag (rW g1) ?_
 obtain ⟨h2,h⟩|⟨h2,h⟩:=af h
 ·try simp(config:=cS)only[go_sem,eZt h2]
  refine gT ?_ ?_
  ·try simp(config:=cS)only[go_sem]
   refine gT ?_ ?_
   ·obtain ⟨r02,g3,h⟩:=ae h
    simp(config:=cS)only[go_sem]
    refine ag (aZ g3) ?_
    try simp(config:=cS)only[go_sem]
    refine gT ?_ ?_
    ·obtain ⟨x03,g4,h⟩:=ae h
     obtain ⟨h6,h7⟩:=cV (k:=0) g4
     cases h
     simp(config:=cS)only[go_sem,h6,h7]
    ·obtain ⟨x04,g8,h⟩:=ae h
     obtain ⟨h10,h11⟩:=cV (k:=0) g8
     cases h
     simp(config:=cS)only[go_sem,h10,h11]
   ·try simp(config:=cS)only[go_sem]
    refine gT ?_ ?_
    ·try simp(config:=cS)only[go_sem]
     refine gT ?_ ?_
     ·obtain ⟨r05,g12,h⟩:=ae h
      simp(config:=cS)only[go_sem]
      refine ag (aZ g12) ?_
      obtain ⟨x06,g13,h⟩:=ae h
      obtain ⟨h15,h16⟩:=cV (k:=0) g13
      cases h
      simp(config:=cS)only[go_sem,h15,h16]
     ·obtain ⟨r07,g17,h⟩:=ae h
      simp(config:=cS)only[go_sem]
      refine ag (aZ g17) ?_
      obtain ⟨x08,g18,h⟩:=ae h
      obtain ⟨h20,h21⟩:=cV (k:=0) g18
      cases h
      simp(config:=cS)only[go_sem,h20,h21]
    ·try simp(config:=cS)only[go_sem]
     refine gT ?_ ?_
     ·obtain ⟨r09,g22,h⟩:=ae h
      simp(config:=cS)only[go_sem]
      refine ag (aZ g22) ?_
      obtain ⟨x10,g23,h⟩:=ae h
      obtain ⟨h25,h26⟩:=cV (k:=0) g23
      cases h
      simp(config:=cS)only[go_sem,h25,h26]
     ·obtain ⟨r11,g27,h⟩:=ae h
      simp(config:=cS)only[go_sem]
      refine ag (aZ g27) ?_
      obtain ⟨x12,g28,h⟩:=ae h
      obtain ⟨h30,h31⟩:=cV (k:=0) g28
      cases h
      simp(config:=cS)only[go_sem,h30,h31]
  ·try simp(config:=cS)only[go_sem]
   refine gT ?_ ?_
   ·try simp(config:=cS)only[go_sem]
    refine gT ?_ ?_
    ·try simp(config:=cS)only[go_sem]
     refine gT ?_ ?_
     ·obtain ⟨r13,g32,h⟩:=ae h
      simp(config:=cS)only[go_sem]
      refine ag (aZ g32) ?_
      obtain ⟨x14,g33,h⟩:=ae h
      obtain ⟨h35,h36⟩:=cV (k:=0) g33
      cases h
      simp(config:=cS)only[go_sem,h35,h36]
     ·obtain ⟨r15,g37,h⟩:=ae h
      simp(config:=cS)only[go_sem]
      refine ag (aZ g37) ?_
      obtain ⟨x16,g38,h⟩:=ae h
      obtain ⟨h40,h41⟩:=cV (k:=0) g38
      cases h
      simp(config:=cS)only[go_sem,h40,h41]
    ·obtain ⟨r17,g42,h⟩:=ae h
     simp(config:=cS)only[go_sem]
     refine ag (aZ g42) ?_
     obtain ⟨x18,g43,h⟩:=ae h
     obtain ⟨h45,h46⟩:=cV (k:=0) g43
     cases h
     simp(config:=cS)only[go_sem,h45,h46]
   ·try simp(config:=cS)only[go_sem]
    refine gT ?_ ?_
    ·try simp(config:=cS)only[go_sem]
     refine gT ?_ ?_
     ·obtain ⟨r19,g47,h⟩:=ae h
      simp(config:=cS)only[go_sem]
      refine ag (aZ g47) ?_
      obtain ⟨x20,g48,h⟩:=ae h
      obtain ⟨h50,h51⟩:=cV (k:=0) g48
      cases h
      simp(config:=cS)only[go_sem,h50,h51]
     ·obtain ⟨r21,g52,h⟩:=ae h
      simp(config:=cS)only[go_sem]
      refine ag (aZ g52) ?_
      obtain ⟨x22,g53,h⟩:=ae h
      obtain ⟨h55,h56⟩:=cV (k:=0) g53
      cases h
      simp(config:=cS)only[go_sem,h55,h56]
    ·obtain ⟨r23,g57,h⟩:=ae h
     simp(config:=cS)only[go_sem]
     refine ag (aZ g57) ?_
     obtain ⟨x24,g58,h⟩:=ae h
     obtain ⟨h60,h61⟩:=cV (k:=0) g58
     cases h
     simp(config:=cS)only[go_sem,h60,h61]
 ·cases h
  simp(config:=cS)only[go_sem,eZf h2]
def nq (g:List GTie)(e b:Int)(c d:List Int):(Int × (List Int))→St
 | (f,a)=>⟨[(3,.ptr 192 1 0 0),(5,.ref 383 1 0 a.length),(9,.sl (ab GTie.enc g)),(10,.lit (.int .i64 e)),(11,.lit (.int .i64 f))],[(192,1,.var [.lit (.int .i64 b),.sl (ab eI c),.sl (ab eI d)]),(383,1,.row true (ab eI a))],2⟩
attribute [go_sem] nq
attribute [go_sem] Tryz.ntmps187 Tryz.results187
theorem AM {s:GShow}{v1:GState}{res:List Int}(h:jx s v1=some res):ap Tryz.prog 187 [.agg (GShow.encS s),.agg (GState.encS v1)] [] (.ref 20000 1 0 res.length) [(20000,1,.row true (ab eI res))]:=by
 refine aj (ra:=[.home 4]) (md:=mdT) hT (hi:=hi00) Tryz.func187 rfl rfl (by decide +kernel) (by simp) ?_
 unfold jx at h
 obtain ⟨q04,l1,h⟩:=ae h
 simp(config:=cS)only[go_sem]
 refine ao (m1:=.mk) (m2:=.mk) [.home 5,.nf [3,5,9,10,11] [192,383]] (nq s.ties ((s.ties.length:Nat):Int) v1.now v1.times v1.values) l1 ?_ ?_
 ·simp(config:=cS)only[go_sem]
 ·intro nb2 sb2 bb2 b2 gb2
  obtain ⟨v11_1,out_1⟩:=sb2
  unfold gG at b2
  try dsimp only at b2
  obtain ⟨h3,b2⟩|⟨h3,b2⟩:=af b2
  ·obtain ⟨x01,g4,b2⟩:=ae b2
   obtain ⟨h5,h6,h7⟩:=ai g4
   obtain ⟨h8,b2⟩|⟨h8,b2⟩:=af b2
   ·obtain ⟨x02,g9,b2⟩:=ae b2
    obtain ⟨h10,h11,h12⟩:=ai g9
    obtain ⟨h13,b2⟩|⟨h13,b2⟩:=af b2
    ·cases b2
     simp(config:=cS)only[go_sem,eqT h3,h5,h6,h7,eZt h8,h10,h11,h12,eqT h13]
     refine ar gb2 ?_
     simp(config:=cS)only[go_sem]
    ·obtain ⟨x03,g14,b2⟩:=ae b2
     obtain ⟨h15,h16,h17⟩:=ai g14
     obtain ⟨h18,b2⟩|⟨h18,b2⟩:=af b2
     ·obtain ⟨h19,b2⟩:=ak b2
      obtain ⟨h20,b2⟩:=ak b2
      cases b2
      simp(config:=cS)only[go_sem,eqT h3,h5,h6,h7,eZt h8,h10,h11,h12,eqF h13,h15,h16,h17,eqT h18,eqT h19,eqT h20]
      refine ar gb2 ?_
      simp(config:=cS)only[go_sem]
     ·cases b2
      simp(config:=cS)only[go_sem,eqT h3,h5,h6,h7,eZt h8,h10,h11,h12,eqF h13,h15,h16,h17,eqF h18]
      refine ar gb2 ?_
      simp(config:=cS)only[go_sem]
   ·cases b2
    simp(config:=cS)only[go_sem,eqT h3,h5,h6,h7,eZf h8]
    refine ar gb2 ?_
    simp(config:=cS)only[go_sem]
  ·cases b2
   obtain rfl:=(al gb2).symm
   try dsimp only at h
   cases h
   simp(config:=cS)only[go_sem,eqF h3]
def mR (b:Int)(d:List Int)(e:Int):(Int × (List Int))→St
 | (c,a)=>⟨[(1,.lit (.int .i64 b)),(5,.ref 383 1 0 a.length),(8,.sl (ab eI d)),(9,.lit (.int .i64 e)),(10,.lit (.int .i64 c))],[(383,1,.row true (ab eI a))],2⟩
attribute [go_sem] mR
attribute [go_sem] Tryz.ntmps265 Tryz.results265
theorem qQ {list:List Int}{set:Int}{res:List Int}(h:gq list set=some res):ap Tryz.prog 265 [.sl (ab eI list),.lit (.int .i64 set)] [] (.ref 20000 1 0 res.length) [(20000,1,.row true (ab eI res))]:=by
 refine aj (ra:=[.home 4]) (md:=mdT) hT (hi:=hi00) Tryz.func265 rfl rfl (by decide +kernel) (by simp) ?_
 unfold gq at h
 obtain ⟨q02,l1,h⟩:=ae h
 simp(config:=cS)only[go_sem]
 refine ao (m1:=.mk) (m2:=.mk) [.home 5,.nf [1,5,8,9,10] [383]] (mR set list ((list.length:Nat):Int)) l1 ?_ ?_
 ·simp(config:=cS)only[go_sem]
 ·intro nb2 sb2 bb2 b2 gb2
  obtain ⟨v10_1,out_1⟩:=sb2
  unfold fM at b2
  try dsimp only at b2
  obtain ⟨h3,b2⟩|⟨h3,b2⟩:=af b2
  ·obtain ⟨x01,g4,b2⟩:=ae b2
   obtain ⟨h5,h6,h7⟩:=ai g4
   obtain ⟨h8,b2⟩:=ak b2
   obtain ⟨h9,b2⟩|⟨h9,b2⟩:=af b2
   ·obtain ⟨h10,b2⟩:=ak b2
    obtain ⟨h11,b2⟩:=ak b2
    cases b2
    simp(config:=cS)only[go_sem,eqT h3,h5,h6,h7,eqF h8,eqT h9,eqT h10,eqT h11]
    refine ar gb2 ?_
    simp(config:=cS)only[go_sem]
   ·cases b2
    simp(config:=cS)only[go_sem,eqT h3,h5,h6,h7,eqF h8,eqF h9]
    refine ar gb2 ?_
    simp(config:=cS)only[go_sem]
  ·cases b2
   obtain rfl:=(al gb2).symm
   try dsimp only at h
   cases h
   simp(config:=cS)only[go_sem,eqF h3]
attribute [go_sem] Tryz.ntmps302 Tryz.results302
theorem um {v1:Int}{res:List Int × Nat}(h:fN v1=some res):ap Tryz.prog 302 [.lit (.slice none 0 0),.lit (.int .i64 v1)] [] (.ref 20000 1 0 res.2) [(20000,1,.row true (ab eI res.1))]:=by
 refine aj (ra:=[.home 4]) (md:=mdT) hT (hi:=hi00) Tryz.func302 rfl rfl (by decide +kernel) (by simp) ?_
 unfold fN at h
 obtain ⟨h1,h⟩|⟨h1,h⟩:=af h
 ·cases h
 ·obtain ⟨h2,h⟩|⟨h2,h⟩:=af h
  ·obtain ⟨h3,h⟩:=ak h
   obtain ⟨h4,h⟩:=ak h
   obtain ⟨h5,h⟩:=ak h
   cases h
   simp(config:=cS)only[go_sem,eqF h1,eqT h2,eqT h3,eqT h4,eqT h5]
  ·cases h
   simp(config:=cS)only[go_sem,eqF h1,eqF h2]
def jN (a:List (List Int))(b:Int):(Int × Int)→St
 | (d,c)=>⟨[(0,.sl (ab (eLS eI) a)),(3,.lit (.int .i64 d)),(9,.sl (ab (eLS eI) a)),(10,.lit (.int .i64 b)),(11,.lit (.int .i64 c))],[],2⟩
attribute [go_sem] jN
def jO (b:List (List Int))(c:Int):(Nat × Int × (List Int))→St
 | (a,d,e)=>⟨[(6,.ref 1536 1 0 a),(25,.sl (ab (eLS eI) b)),(26,.lit (.int .i64 c)),(27,.lit (.int .i64 d))],[(1536,1,.row true (ab eI e))],2⟩
attribute [go_sem] jO
attribute [go_sem] Tryz.ntmps264 Tryz.results264
theorem se {v0:List (List Int)}{res:List Int}(h:ep v0=some res):ap Tryz.prog 264 [.sl (ab (eLS eI) v0)] [] (.ref 20000 1 0 res.length) [(20000,1,.row true (ab eI res))]:=by
 refine aj (ra:=[.home 2,.trimT 2]) (md:=mdT) hT (hi:=hi00) Tryz.func264 rfl rfl (by decide +kernel) (by simp) ?_
 unfold ep at h
 obtain ⟨q05,l1,h⟩:=ae h
 simp(config:=cS)only[go_sem]
 refine ao (m1:=.mk) (m2:=.mk) [.nf [0,3,9,10,11] []] (jN v0 ((v0.length:Nat):Int)) l1 ?_ ?_
 ·simp(config:=cS)only[go_sem]
 ·intro nb2 sb2 bb2 b2 gb2
  obtain ⟨v3_1,v11_1⟩:=sb2
  unfold cN at b2
  try dsimp only at b2
  obtain ⟨h3,b2⟩|⟨h3,b2⟩:=af b2
  ·obtain ⟨x01,g4,b2⟩:=ae b2
   obtain ⟨h5,h6,h7⟩:=ai g4
   obtain ⟨h8,b2⟩|⟨h8,b2⟩:=af b2
   ·cases b2
   ·cases b2
    simp(config:=cS)only[go_sem,eqT h3,h5,h6,h7,eqF h8]
    refine ar gb2 ?_
    simp(config:=cS)only[go_sem]
  ·cases b2
   obtain rfl:=(al gb2).symm
   try dsimp only at h
   obtain ⟨r02,g10,h⟩:=ae h
   simp(config:=cS)only[go_sem,eqF h3]
   refine ag (um g10) ?_
   obtain ⟨q04,l11,h⟩:=ae h
   simp(config:=cS)only[go_sem]
   refine ao (m1:=.mk) (m2:=.mk) [.nf [6,25,26,27] [1536]] (jO v0 ((v0.length:Nat):Int)) l11 ?_ ?_
   ·simp(config:=cS)only[go_sem]
   ·intro nb12 sb12 bb12 b12 gb12
    obtain ⟨v6_n_2,v27_2,v6_2⟩:=sb12
    unfold cO at b12
    try dsimp only at b12
    obtain ⟨h13,b12⟩|⟨h13,b12⟩:=af b12
    ·obtain ⟨x03,g14,b12⟩:=ae b12
     obtain ⟨h15,h16,h17⟩:=ai g14
     obtain ⟨h18,b12⟩|⟨h18,b12⟩:=af b12
     ·obtain ⟨h19,b12⟩:=ak b12
      obtain ⟨h20,b12⟩:=ak b12
      cases b12
      simp(config:=cS)only[go_sem,eqT h13,h15,h16,h17,eqT h18,eqT h19,eqT h20]
      refine ar gb12 ?_
      simp(config:=cS)only[go_sem]
     ·obtain ⟨h21,b12⟩:=ak b12
      obtain ⟨h22,b12⟩|⟨h22,b12⟩:=af b12
      ·cases b12
       simp(config:=cS)only[go_sem,eqT h13,h15,h16,h17,eqF h18,eqT h21,eqT h22]
       refine ar gb12 ?_
       simp(config:=cS)only[go_sem]
      ·obtain ⟨h23,b12⟩:=ak b12
       obtain ⟨h24,b12⟩:=ak b12
       cases b12
       simp(config:=cS)only[go_sem,eqT h13,h15,h16,h17,eqF h18,eqT h21,eqF h22,eqT h23,eqT h24]
       refine ar gb12 ?_
       simp(config:=cS)only[go_sem]
    ·cases b12
     obtain rfl:=(al gb12).symm
     try dsimp only at h
     obtain ⟨h26,h⟩:=ak h
     obtain ⟨h27,h⟩:=ak h
     cases h
     simp(config:=cS)only[go_sem,eqF h13,eqT h26,eqT h27]
attribute [go_sem] Tryz.ntmps333 Tryz.results333
theorem Cx {v0 res:Int}(h:pz v0=some res):ap Tryz.prog 333 [.lit (.int .u64 v0)] [] (.lit (.int .i64 res)) []:=by
 refine aj (ra:=[]) (md:=mdT) hT (hi:=hi00) Tryz.func333 rfl rfl (by decide +kernel) (by simp) ?_
 unfold pz at h
 obtain ⟨h1,h⟩|⟨h1,h⟩:=af h
 ·obtain ⟨h2,h⟩|⟨h2,h⟩:=af h
  ·obtain ⟨h3,h⟩|⟨h3,h⟩:=af h
   ·obtain ⟨c1001,g4,h⟩:=ae h
    obtain ⟨h5,h6,h7⟩:=ga g4
    cases h
    simp(config:=cS)only[go_sem,eqT h1,eqT h2,eqT h3,h5,h6,h7]
   ·obtain ⟨c1002,g8,h⟩:=ae h
    obtain ⟨h9,h10,h11⟩:=ga g8
    cases h
    simp(config:=cS)only[go_sem,eqT h1,eqT h2,eqF h3,h9,h10,h11]
  ·obtain ⟨h12,h⟩|⟨h12,h⟩:=af h
   ·obtain ⟨c1003,g13,h⟩:=ae h
    obtain ⟨h14,h15,h16⟩:=ga g13
    cases h
    simp(config:=cS)only[go_sem,eqT h1,eqF h2,eqT h12,h14,h15,h16]
   ·obtain ⟨c1004,g17,h⟩:=ae h
    obtain ⟨h18,h19,h20⟩:=ga g17
    cases h
    simp(config:=cS)only[go_sem,eqT h1,eqF h2,eqF h12,h18,h19,h20]
 ·obtain ⟨h21,h⟩|⟨h21,h⟩:=af h
  ·obtain ⟨h22,h⟩|⟨h22,h⟩:=af h
   ·obtain ⟨c1005,g23,h⟩:=ae h
    obtain ⟨h24,h25,h26⟩:=ga g23
    cases h
    simp(config:=cS)only[go_sem,eqF h1,eqT h21,eqT h22,h24,h25,h26]
   ·obtain ⟨c1006,g27,h⟩:=ae h
    obtain ⟨h28,h29,h30⟩:=ga g27
    cases h
    simp(config:=cS)only[go_sem,eqF h1,eqT h21,eqF h22,h28,h29,h30]
  ·obtain ⟨h31,h⟩|⟨h31,h⟩:=af h
   ·obtain ⟨c1007,g32,h⟩:=ae h
    obtain ⟨h33,h34,h35⟩:=ga g32
    cases h
    simp(config:=cS)only[go_sem,eqF h1,eqF h21,eqT h31,h33,h34,h35]
   ·obtain ⟨c1008,g36,h⟩:=ae h
    obtain ⟨h37,h38,h39⟩:=ga g36
    cases h
    simp(config:=cS)only[go_sem,eqF h1,eqF h21,eqF h31,h37,h38,h39]
attribute [go_sem] Tryz.ntmps304 Tryz.results304
theorem Fv {v0 res:Int}(h:oV v0=some res):ap Tryz.prog 304 [.lit (.int .u64 v0)] [] (.lit (.int .i64 res)) []:=by
 refine aj (ra:=[]) (md:=mdT) hT (hi:=hi00) Tryz.func304 rfl rfl (by decide +kernel) (by simp) ?_
 unfold oV at h
 obtain ⟨r01,g1,h⟩:=ae h
 simp(config:=cS)only[go_sem]
 refine ag (Cx g1) ?_
 cases h
 simp(config:=cS)only[go_sem]
attribute [go_sem] Tryz.ntmps350 Tryz.results350
theorem pZ {v0:Int}{res:Bool}(h:hM v0=some res):ap Tryz.prog 350 [.lit (.int .i64 v0)] [] (.lit (.bool res)) []:=by
 refine aj (ra:=[]) (md:=mdT) hT (hi:=hi00) Tryz.func350 rfl rfl (by decide +kernel) (by simp) ?_
 unfold hM at h
 cases h
 simp(config:=cS)only[go_sem]
attribute [go_sem] Tryz.ntmps329 Tryz.results329
theorem yT {v0 v1:Int}{res:Bool}(h:iO v0 v1=some res):ap Tryz.prog 329 [.lit (.int .i64 v0),.lit (.int .i64 v1)] [] (.lit (.bool res)) []:=by
 refine aj (ra:=[]) (md:=mdT) hT (hi:=hi00) Tryz.func329 rfl rfl (by decide +kernel) (by simp) ?_
 unfold iO at h
 obtain ⟨r01,g1,h⟩:=ae h
 simp(config:=cS)only[go_sem]
 refine ag (pZ g1) ?_
 obtain ⟨h2,h⟩|⟨h2,h⟩:=af h
 ·obtain ⟨r02,g3,h⟩:=ae h
  simp(config:=cS)only[go_sem,eZt h2]
  refine ag (pZ g3) ?_
  obtain ⟨h4,h⟩|⟨h4,h⟩:=af h
  ·cases h
   simp(config:=cS)only[go_sem,eZt h2,eZt h4]
  ·cases h
   simp(config:=cS)only[go_sem,eZt h2,eZf h4]
 ·cases h
  simp(config:=cS)only[go_sem,eZf h2]
def dS (a:Bool)(c d e:Int):(Int × (List Int))→St
 | (f,b)=>⟨[(0,.ref 10000 0 0 b.length),(1,.lit (.int .i64 c)),(2,.lit (.int .i64 d)),(6,.lit (.int .i64 e)),(7,.lit (.int .i64 f))],[(10000,0,.row a (ab eI b))],2⟩
attribute [go_sem] dS
def dT (a:Bool)(c d:Int):(Int × (List Int))→St
 | (e,b)=>⟨[(0,.ref 10000 0 0 b.length),(1,.lit (.int .i64 c)),(2,.lit (.int .i64 d)),(6,.lit (.int .i64 e))],[(10000,0,.row a (ab eI b))],2⟩
attribute [go_sem] dT
@[go_sem] def hi323_6:DT:=.i2 0 (.i2 1 (.i2 2 (.i2 3 (.i2 4 (.i2 5 (.i2 6 (.i2 7 (.i2 8 (.i2 9 (.i2 10 (.i2 11 (.i2 12 (.i2 13 (.i2 14 (.i2 15 (.i2 16 (.i2 17 .nil)))))))))))))))))
@[go_sem] def hi323_4:DT:=.i2 0 (.i2 1 (.i2 2 (.i2 3 (.i2 4 (.i2 5 (.i2 6 (.i2 7 (.i2 8 (.i2 9 (.i2 10 (.i2 11 (.i2 12 (.i2 13 (.i2 14 .nil))))))))))))))
def xE:Hint where
 acts:=fun _=>[]
 draws:=fun
  | 4=>⟨hi323_4,[[],[],[0,1],[0,1,2],[0,1,2,3],[0,1,2,3],.range 6,.range 7,[0,1,2,3],[0,1,2,3],[0,1,2,3,9],[0,1,2,3,8,9,10],[0,1,2,3,8,9,10,11],.range 13,.range 14],.range 15⟩
  | 6=>⟨hi323_6,[[],[],[],[],[3],[],[],[6],[5,6,7],[5,6,7,8],[],[],[10,11],[10,11,12],[0,1,5,6,7,8,9,10,11,12,13],[0,1,5,6,7,8,9,10,11,12,13,14],.range 16,.range 17],[0,1,13,14,15,2,3,4,5,6,7,8,9,10,11,12,16,17]⟩
  | _=>⟨.nil,[],[]⟩
theorem LU (i:Nat):xE.acts i=[]:=rfl
theorem LV (i:Nat):xE.views i=none:=rfl
attribute [go_sem] LU LV Tryz.ntmps323 Tryz.results323
@[go_sem] theorem Od:(xE.draws 4).order=hi323_4:=rfl
@[go_sem] theorem Oe:(xE.draws 6).order=hi323_6:=rfl
theorem li {v0:List Int}{v1 v2:Int}{zb0:Bool}{res:List Int}(h:bl v0 v1 v2=some res):ap Tryz.prog 323 [.ref 10000 0 0 v0.length,.lit (.int .i64 v1),.lit (.int .i64 v2)] [(10000,0,.row zb0 (ab eI v0))] (.tup []) [(10000,0,.row zb0 (ab eI res))]:=by
 refine aj (ra:=[]) (md:=mdT) hT (hi:=xE) Tryz.func323 rfl rfl (by decide +kernel) (by simp) ?_
 unfold bl at h
 obtain ⟨q06,l1,h⟩:=ae h
 simp(config:=cS)only[go_sem]
 refine ao (m1:=.mk) (m2:=.mk) [.nf [0,1,2,6] [10000]] (dT zb0 v1 v2) l1 ?_ ?_
 ·simp(config:=cS)only[go_sem]
 ·intro nb2 sb2 bb2 b2 gb2
  obtain ⟨v6_1,v0_1⟩:=sb2
  unfold aP at b2
  try dsimp only at b2
  obtain ⟨h3,b2⟩|⟨h3,b2⟩:=af b2
  ·obtain ⟨q05,l4,b2⟩:=ae b2
   simp(config:=cS)only[go_sem,eqT h3]
   refine ao (m1:=.mk) (m2:=.mk) [.nf [0,1,2,6,7] [10000]] (dS zb0 v1 v2 v6_1) l4 ?_ ?_
   ·simp(config:=cS)only[go_sem,eqT h3]
   ·intro nb5 sb5 bb5 b5 gb5
    obtain ⟨v7_2,v0_2⟩:=sb5
    unfold aJ at b5
    try dsimp only at b5
    obtain ⟨h6,b5⟩|⟨h6,b5⟩:=af b5
    ·obtain ⟨x01,g7,b5⟩:=ae b5
     obtain ⟨h8,h9,h10⟩:=ai g7
     obtain ⟨x02,g11,b5⟩:=ae b5
     obtain ⟨h12,h13,h14⟩:=ai g11
     obtain ⟨r03,g15,b5⟩:=ae b5
     simp(config:=cS)only[go_sem,eqT h3,eqT h6,h8,h9,h10,h12,h13,h14]
     refine ag (yT g15) ?_
     obtain ⟨h16,b5⟩|⟨h16,b5⟩:=af b5
     ·obtain ⟨x04,g17,b5⟩:=ae b5
      obtain ⟨h18,h19,h20⟩:=ai g17
      cases b5
      simp(config:=cS)only[go_sem,eqT h3,eqT h6,h8,h9,h10,h12,h13,h14,eZt h16,h18,h19,h20]
      refine ar gb5 ?_
      simp(config:=cS)only[go_sem,eqT h3,eqT h6,h8,h9,h10,h12,h13,h14,eZt h16,h18,h19,h20]
     ·cases b5
      obtain rfl:=(al gb5).symm
      try dsimp only at b2
      cases b2
      simp(config:=cS)only[go_sem,eqT h3,eqT h6,h8,h9,h10,h12,h13,h14,eZf h16]
      refine ar gb2 ?_
      simp(config:=cS)only[go_sem,eqT h3,eqT h6,h8,h9,h10,h12,h13,h14,eZf h16]
    ·cases b5
     obtain rfl:=(al gb5).symm
     try dsimp only at b2
     cases b2
     simp(config:=cS)only[go_sem,eqT h3,eqF h6]
     refine ar gb2 ?_
     simp(config:=cS)only[go_sem,eqT h3,eqF h6]
  ·cases b2
   obtain rfl:=(al gb2).symm
   try dsimp only at h
   cases h
   simp(config:=cS)only[go_sem,eqF h3]
def gg (a:Bool)(c d e:Int)(b:List Int)(_:Unit):St:=⟨[(0,.ref 10000 0 0 b.length),(1,.lit (.int .i64 c)),(2,.lit (.int .i64 d)),(3,.lit (.int .i64 e)),(8,.lit (.bool true)),(9,.lit (.bool true))],[(10000,0,.row a (ab eI b))],2⟩
attribute [go_sem] gg
@[go_sem] def hi303_17:DT:=.i2 0 (.i2 1 (.i2 2 (.i2 3 (.i2 4 (.i2 5 (.i2 6 (.i2 7 (.i2 8 (.i2 9 (.i2 10 (.i2 11 (.i2 12 (.i2 13 (.i2 14 .nil))))))))))))))
def BI:Hint where
 acts:=fun _=>[]
 draws:=fun
  | 17=>⟨hi303_17,[[],[0],[0,1],[0,1,2],[0,1,2],[0,1,2,4],.range 6,.range 7,[0,1,2],[0,1,2],[0,1,2,8,9],[0,1,2,8,9,10],.range 12,.range 13,.range 14],.range 15⟩
  | _=>⟨.nil,[],[]⟩
theorem LW (i:Nat):BI.acts i=[]:=rfl
theorem LX (i:Nat):BI.views i=none:=rfl
attribute [go_sem] LW LX Tryz.ntmps303 Tryz.results303
@[go_sem] theorem NO:(BI.draws 17).order=hi303_17:=rfl
theorem oq {v0:List Int}{v1 v2 v3:Int}{zb0:Bool}{res:List Int}(h:bL v0 v1 v2 v3=some res):ap Tryz.prog 303 [.ref 10000 0 0 v0.length,.lit (.int .i64 v1),.lit (.int .i64 v2),.lit (.int .i64 v3)] [(10000,0,.row zb0 (ab eI v0))] (.tup []) [(10000,0,.row zb0 (ab eI res))]:=by
 refine aj (ra:=[]) (md:=mdT) hT (hi:=BI) Tryz.func303 rfl rfl (by decide +kernel) (by simp) ?_
 unfold bL at h
 obtain ⟨q02,l1,h⟩:=ae h
 simp(config:=cS)only[go_sem]
 refine ao (m1:=.mk) (m2:=.mk) [.nf [0,1,2,3,8,9] [10000]] (gg zb0 v1 v2 v3 v0) l1 ?_ ?_
 ·simp(config:=cS)only[go_sem]
 ·intro nb2 sb2 bb2 b2 gb2
  unfold dF at b2
  try dsimp only at b2
  obtain ⟨h3,b2⟩|⟨h3,b2⟩:=af b2
  ·obtain ⟨r01,g4,b2⟩:=ae b2
   simp(config:=cS)only[go_sem,eqT h3]
   refine ag (li g4) ?_
   cases b2
   obtain rfl:=(al gb2).symm
   try dsimp only at h
   cases h
   simp(config:=cS)only[go_sem]
  ·cases b2
attribute [go_sem] Tryz.ntmps266 Tryz.results266
theorem oJ {v0:List Int}{zb0:Bool}{res:List Int}(h:bD v0=some res):ap Tryz.prog 266 [.ref 10000 0 0 v0.length] [(10000,0,.row zb0 (ab eI v0))] (.tup []) [(10000,0,.row zb0 (ab eI res))]:=by
 refine aj (ra:=[]) (md:=mdT) hT (hi:=hi00) Tryz.func266 rfl rfl (by decide +kernel) (by simp) ?_
 unfold bD at h
 obtain ⟨r01,g1,h⟩:=ae h
 simp(config:=cS)only[go_sem]
 refine ag (Fv g1) ?_
 obtain ⟨r02,g2,h⟩:=ae h
 simp(config:=cS)only[go_sem]
 refine ag (oq g2) ?_
 cases h
 simp(config:=cS)only[go_sem]
def mS (g:Int)(h:List GNode)(i:List GTie)(j d:Int)(e f b:List Int):(Int × (List Int) × (List Int))→St
 | (k,a,c)=>⟨[(2,.ptr 128 1 0 0),(3,.ptr 192 1 0 0),(5,.ref 383 1 0 a.length),(6,.ref 447 1 0 c.length),(20,.ref 1280 1 0 b.length),(21,.lit (.int .i64 g)),(22,.lit (.int .i64 k))],[(128,1,.var [.sl (ab GNode.encS h),.sl (ab GTie.enc i),.lit (.int .i64 j)]),(192,1,.var [.lit (.int .i64 d),.sl (ab eI e),.sl (ab eI f)]),(383,1,.row true (ab eI a)),(447,1,.row true (ab eI c)),(1280,1,.row true (ab eI b))],2⟩
attribute [go_sem] mS
def mT (a b:List Int):(Int × (List (List Int)))→St
 | (d,c)=>⟨[(5,.ref 383 1 0 a.length),(6,.ref 447 1 0 b.length),(10,.ref 703 1 0 c.length),(11,.lit (.int .i64 d))],[(383,1,.tree (ab eI a)),(447,1,.row true (ab eI b)),(703,1,.row true (ab (eLO eI) c))],2⟩
attribute [go_sem] mT
@[go_sem] def hi192_7:DT:=.i2 0 (.i2 1 (.i2 2 (.i2 3 (.i2 4 (.i2 5 (.i2 6 (.i2 7 (.i2 8 (.i2 9 (.i2 10 (.i2 11 (.i2 12 (.i2 13 .nil)))))))))))))
def BJ:Hint where
 acts:=fun _=>[]
 draws:=fun
  | 7=>⟨hi192_7,[[],[0],[],[2],[],[4],[],[4,5,6],[4,5,6,7],[4,5,6,7,8],[2,3,4,5,6,7,8,9],[2,3,4,5,6,7,8,9,10],.range 12,.range 13],.range 14⟩
  | _=>⟨.nil,[],[]⟩
theorem LY (i:Nat):BJ.acts i=[]:=rfl
theorem LZ (i:Nat):BJ.views i=none:=rfl
attribute [go_sem] LY LZ Tryz.ntmps192 Tryz.results192
@[go_sem] theorem Of:(BJ.draws 7).order=hi192_7:=rfl
theorem yU {s:GShow}{v1:GState}{res:List (List Int)}(h:iP s v1=some res):ap Tryz.prog 192 [.agg (GShow.encS s),.agg (GState.encS v1)] [] (.ref 20000 1 0 res.length) [(20000,1,.row true (ab (eLO eI) res))]:=by
 refine aj (ra:=[.home 4]) (md:=mdT) hT (hi:=BJ) Tryz.func192 rfl rfl (by decide +kernel) (by simp) ?_
 unfold iP at h
 obtain ⟨h1,h⟩|⟨h1,h⟩:=af h
 ·cases h
  simp(config:=cS)only[go_sem,eqT h1]
 ·obtain ⟨r01,g2,h⟩:=ae h
  simp(config:=cS)only[go_sem,eqF h1]
  refine ag (AM g2) ?_
  obtain ⟨q09,l3,h⟩:=ae h
  simp(config:=cS)only[go_sem]
  refine ao (m1:=.mk) (m2:=.mk) [.home 5,.home 6,.nf [2,3,5,6,20,21,22] [128,192,383,447,1280]] (mS ((r01.length:Nat):Int) s.nodes s.ties s.horizon v1.now v1.times v1.values r01) l3 ?_ ?_
  ·simp(config:=cS)only[go_sem]
  ·intro nb4 sb4 bb4 b4 gb4
   obtain ⟨v22_1,must_1,may_1⟩:=sb4
   unfold fO at b4
   try dsimp only at b4
   obtain ⟨h5,b4⟩|⟨h5,b4⟩:=af b4
   ·obtain ⟨x02,g6,b4⟩:=ae b4
    obtain ⟨h7,h8,h9⟩:=ai g6
    obtain ⟨x03,g10,b4⟩:=ae b4
    obtain ⟨h11,h12,h13⟩:=ai g10
    obtain ⟨x04,g14,b4⟩:=ae b4
    obtain ⟨h15,h16,h17⟩:=ai g14
    obtain ⟨h18,b4⟩|⟨h18,b4⟩:=af b4
    ·obtain ⟨h19,b4⟩:=ak b4
     obtain ⟨h20,b4⟩:=ak b4
     cases b4
     simp(config:=cS)only[go_sem,eqT h5,h7,h8,h9,h11,h12,h13,h15,h16,h17,eqT h18,eqT h19,eqT h20]
     refine ar gb4 ?_
     simp(config:=cS)only[go_sem]
    ·obtain ⟨h21,b4⟩|⟨h21,b4⟩:=af b4
     ·obtain ⟨h22,b4⟩:=ak b4
      obtain ⟨h23,b4⟩:=ak b4
      cases b4
      simp(config:=cS)only[go_sem,eqT h5,h7,h8,h9,h11,h12,h13,h15,h16,h17,eqF h18,eqT h21,eqT h22,eqT h23]
      refine ar gb4 ?_
      simp(config:=cS)only[go_sem]
     ·cases b4
      simp(config:=cS)only[go_sem,eqT h5,h7,h8,h9,h11,h12,h13,h15,h16,h17,eqF h18,eqF h21]
      refine ar gb4 ?_
      simp(config:=cS)only[go_sem]
   ·cases b4
    obtain rfl:=(al gb4).symm
    try dsimp only at h
    obtain ⟨q08,l25,h⟩:=ae h
    simp(config:=cS)only[go_sem,eqF h5]
    refine ao (m1:=.mk) (m2:=.mk) [.home 10,.freeze [383],.nf [5,6,10,11] [383,447,703]] (mT must_1 may_1) l25 ?_ ?_
    ·simp(config:=cS)only[go_sem]
    ·intro nb26 sb26 bb26 b26 gb26
     obtain ⟨set_2,out_2⟩:=sb26
     unfold fP at b26
     try dsimp only at b26
     obtain ⟨h27,b26⟩:=ak b26
     obtain ⟨h28,b26⟩|⟨h28,b26⟩:=af b26
     ·obtain ⟨r05,g29,b26⟩:=ae b26
      simp(config:=cS)only[go_sem,eqF h27,eqT h28]
      refine ag (qQ g29) ?_
      obtain ⟨r06,g30,b26⟩:=ae b26
      simp(config:=cS)only[go_sem]
      refine ag (se g30) ?_
      obtain ⟨r07,g31,b26⟩:=ae b26
      simp(config:=cS)only[go_sem]
      refine ag (oJ g31) ?_
      obtain ⟨h32,b26⟩:=ak b26
      obtain ⟨h33,b26⟩:=ak b26
      obtain ⟨h34,b26⟩:=ak b26
      cases b26
      simp(config:=cS)only[go_sem,h32.symm,eqT h33,eqT h34]
      refine ar gb26 ?_
      simp(config:=cS)only[go_sem]
     ·cases b26
      obtain rfl:=(al gb26).symm
      try dsimp only at h
      cases h
      simp(config:=cS)only[go_sem,eqF h27,eqF h28]
def ip (c:List (List Int))(a:Nat)(b:List AV)(d e:Int):St:=⟨[(0,.sl (ab (eLS eI) c)),(1,.fn a b),(7,.lit (.int .i64 d)),(8,.lit (.int .i64 e))],[],2⟩
attribute [go_sem] ip
attribute [go_sem] Tryz.ntmps299 Tryz.results299
theorem pK {v0:List (List Int)}{v1:(List Int)→Option Bool}{f_v1:Nat}{k_v1:List AV}(hp_v1:∀ y0 r,v1 y0=some r→ap Tryz.prog f_v1 ([.sl (ab eI y0)]++k_v1) [] (.lit (.bool r)) [])(hc_v1:KC k_v1)(hm_v1:∀ a,mdT f_v1 a=⟨[],false⟩)(hk_v1:spf f_v1=false){res:Int}(h:cA v0 v1=some res):ap Tryz.prog 299 [.sl (ab (eLS eI) v0),.fn f_v1 k_v1] [] (.lit (.int .i64 res)) []:=by
 refine aj (ra:=[]) (md:=mdT) hT (hi:=hi00) Tryz.func299 rfl rfl (by decide +kernel) (by simp) ?_
 unfold cA at h
 obtain ⟨q03,l1,h⟩:=ae h
 simp(config:=cS)only[go_sem,hc_v1.1,hc_v1.2,hm_v1,hk_v1]
 refine ao (m1:=.mk) (m2:=.mk) [.nf [0,1,7,8] []] (ip v0 f_v1 k_v1 ((v0.length:Nat):Int)) l1 ?_ ?_
 ·simp(config:=cS)only[go_sem,hc_v1.1,hc_v1.2,hm_v1,hk_v1]
 ·intro nb2 v8_1 bb2 b2 gb2
  unfold bu at b2
  try dsimp only at b2
  obtain ⟨h3,b2⟩|⟨h3,b2⟩:=af b2
  ·obtain ⟨x01,g4,b2⟩:=ae b2
   obtain ⟨h5,h6,h7⟩:=ai g4
   obtain ⟨r02,g8,b2⟩:=ae b2
   simp(config:=cS)only[go_sem,hc_v1.1,hc_v1.2,hm_v1,hk_v1,eqT h3,h5,h6,h7]
   refine ag (hp_v1 _ _ g8) ?_
   obtain ⟨h9,b2⟩|⟨h9,b2⟩:=af b2
   ·cases b2
    obtain rfl:=(al gb2).symm
    try dsimp only at h
    cases h
    simp(config:=cS)only[go_sem,hc_v1.1,hc_v1.2,hm_v1,hk_v1,eqT h3,h5,h6,h7,eZt h9]
   ·cases b2
    simp(config:=cS)only[go_sem,hc_v1.1,hc_v1.2,hm_v1,hk_v1,eqT h3,h5,h6,h7,eZf h9]
    refine ar gb2 ?_
    simp(config:=cS)only[go_sem,hc_v1.1,hc_v1.2,hm_v1,hk_v1,eqT h3,h5,h6,h7,eZf h9]
  ·cases b2
   obtain rfl:=(al gb2).symm
   try dsimp only at h
   cases h
   simp(config:=cS)only[go_sem,hc_v1.1,hc_v1.2,hm_v1,hk_v1,eqF h3]
attribute [go_sem] Tryz.ntmps262 Tryz.results262
theorem oG {v0:List (List Int)}{v1:(List Int)→Option Bool}{f_v1:Nat}{k_v1:List AV}(hp_v1:∀ y0 r,v1 y0=some r→ap Tryz.prog f_v1 ([.sl (ab eI y0)]++k_v1) [] (.lit (.bool r)) [])(hc_v1:KC k_v1)(hm_v1:∀ a,mdT f_v1 a=⟨[],false⟩)(hk_v1:spf f_v1=false){res:Bool}(h:cT v0 v1=some res):ap Tryz.prog 262 [.sl (ab (eLS eI) v0),.fn f_v1 k_v1] [] (.lit (.bool res)) []:=by
 refine aj (ra:=[]) (md:=mdT) hT (hi:=hi00) Tryz.func262 rfl rfl (by decide +kernel) (by simp) ?_
 unfold cT at h
 obtain ⟨r01,g1,h⟩:=ae h
 simp(config:=cS)only[go_sem,hc_v1.1,hc_v1.2,hm_v1,hk_v1]
 refine ag (pK hp_v1 hc_v1 hm_v1 hk_v1 g1) ?_
 cases h
 simp(config:=cS)only[go_sem,hc_v1.1,hc_v1.2,hm_v1,hk_v1]
attribute [go_sem] Tryz.ntmps263 Tryz.results263
theorem AN {y v1:List Int}{res:Bool}(h:lF y v1=some res):ap Tryz.prog 263 [.sl (ab eI y),.loc [.sl (ab eI v1)]] [] (.lit (.bool res)) []:=by
 refine aj (ra:=[]) (md:=mdT) hT (hi:=hi00) Tryz.func263 rfl rfl (by decide +kernel) (by simp) ?_
 unfold lF at h
 obtain ⟨r01,g1,h⟩:=ae h
 simp(config:=cS)only[go_sem]
 refine ag (kg g1) ?_
 cases h
 simp(config:=cS)only[go_sem]
attribute [go_sem] Tryz.ntmps191 Tryz.results191
theorem xF {list:List (List Int)}{v1:List Int}{res:Bool}(h:kw list v1=some res):ap Tryz.prog 191 [.sl (ab (eLS eI) list),.sl (ab eI v1)] [] (.lit (.bool res)) []:=by
 refine aj (ra:=[]) (md:=mdT) hT (hi:=hi00) Tryz.func191 rfl rfl (by decide +kernel) (by simp) ?_
 unfold kw at h
 obtain ⟨r01,g1,h⟩:=ae h
 simp(config:=cS)only[go_sem]
 refine ag (oG (by exact fun _ _ hr=>AN hr) (by refine ⟨fun _=>?_,fun _=>?_⟩ <;> simp only [go_sem]) (fun _=>rfl) rfl g1) ?_
 cases h
 simp(config:=cS)only[go_sem]
attribute [go_sem] Tryz.ntmps57 Tryz.results57
theorem ot {v0 res:List Int}(h:dn v0=some res):ap Tryz.prog 57 [.sl (ab eI v0)] [] (.ref 20000 1 0 res.length) [(20000,1,.row true (ab eI res))]:=by
 refine aj (ra:=[.home 2]) (md:=mdT) hT (hi:=hi00) Tryz.func57 rfl rfl (by decide +kernel) (by simp) ?_
 unfold dn at h
 obtain ⟨h1,h3,h2⟩|⟨h1,h3⟩:=Gt h
 ·cases h3
  simp(config:=cS)only[go_sem,h1]
 ·obtain ⟨h4,h3⟩:=ak h3
  obtain ⟨h5,h3⟩:=ak h3
  cases h3
  simp(config:=cS)only[go_sem,EY h1,eqT h4,eqT h5]
@[go_sem] def hi179_1:DT:=.i1 0 (.i1 1 (.i2 2 (.i2 3 (.i1 5 (.i1 6 (.i0 4 [0,1,5,6] (.i0 7 [0,1] (.i2 8 (.i2 9 .nil)))))))))
def BK:Hint where
 acts:=fun _=>[]
 draws:=fun
  | 1=>⟨hi179_1,[[],[0],[],[2],[2,3],[],[5],[2,3,4,5,6],.range 8,.range 9],.range 10⟩
  | _=>⟨.nil,[],[]⟩
theorem Ma (i:Nat):BK.acts i=[]:=rfl
theorem Mb (i:Nat):BK.views i=none:=rfl
attribute [go_sem] Ma Mb Tryz.ntmps179 Tryz.results179
@[go_sem] theorem Og:(BK.draws 1).order=hi179_1:=rfl
theorem lK {v0 res:GState}(h:cX v0=some res):ap Tryz.prog 179 [.agg (GState.encS v0)] [] (.agg [.lit (.int .i64 res.now),.ref 20000 1 0 res.times.length,.ref 20001 1 0 res.values.length]) [(20000,1,.row true (ab eI res.times)),(20001,1,.row true (ab eI res.values))]:=by
 refine aj (ra:=[.homeCell 128 1,.homeCell 128 2]) (md:=mdT) hT (hi:=BK) Tryz.func179 rfl rfl (by decide +kernel) (by simp) ?_
 unfold cX at h
 obtain ⟨r01,g1,h⟩:=ae h
 simp(config:=cS)only[go_sem]
 refine ag (ot g1) ?_
 obtain ⟨r02,g2,h⟩:=ae h
 simp(config:=cS)only[go_sem]
 refine ag (ot g2) ?_
 cases h
 simp(config:=cS)only[go_sem]
def ou (g:List Int)(h:Int)(i:List GNode)(j:List GTie)(k d:Int)(e f:List Int)(c:Int)(a:List Int):(Int × (List Int))→St
 | (l,b)=>⟨[(3,.ptr 192 1 0 0),(4,.ptr 256 1 0 0),(6,.ptr 384 1 0 0),(7,.ptr 448 1 0 0),(12,.sl (ab eI g)),(13,.lit (.int .i64 h)),(14,.lit (.int .i64 l))],[(192,1,.var [.sl (ab GNode.encS i),.sl (ab GTie.enc j),.lit (.int .i64 k)]),(256,1,.var [.lit (.int .i64 d),.sl (ab eI e),.sl (ab eI f)]),(384,1,.var [.lit (.int .i64 0),.lit (.slice none 0 0),.lit (.slice none 0 0)]),(448,1,.var [.lit (.int .i64 c),.ref 704 1 0 b.length,.ref 705 1 0 a.length]),(704,1,.row true (ab eI b)),(705,1,.row true (ab eI a))],2⟩
attribute [go_sem] ou
@[go_sem] def hi194_5:DT:=.i2 0 (.i2 1 (.i2 2 (.i2 3 (.i2 4 (.i2 5 (.i2 6 (.i2 7 (.i2 8 (.i2 9 (.i2 10 (.i2 11 .nil)))))))))))
def BL:Hint where
 acts:=fun _=>[]
 draws:=fun
  | 5=>⟨hi194_5,[[],[0],[],[2],[],[2,3,4],[2,3,4,5],[2,3,4,5,6],[],[8],.range 10,.range 11],.range 12⟩
  | _=>⟨.nil,[],[]⟩
theorem Me (i:Nat):BL.acts i=[]:=rfl
theorem Mf (i:Nat):BL.views i=none:=rfl
attribute [go_sem] Me Mf Tryz.ntmps194 Tryz.results194
@[go_sem] theorem Oh:(BL.draws 5).order=hi194_5:=rfl
theorem Cy {s:GShow}{v1:GState}{ties:List Int}{res:GState}(h:ki s v1 ties=some res):ap Tryz.prog 194 [.agg (GShow.encS s),.agg (GState.encS v1),.sl (ab eI ties)] [] (.agg [.lit (.int .i64 res.now),.ref 20000 1 0 res.times.length,.ref 20001 1 0 res.values.length]) [(20000,1,.row true (ab eI res.times)),(20001,1,.row true (ab eI res.values))]:=by
 refine aj (ra:=[.homeCell 384 1,.homeCell 384 2]) (md:=mdT) hT (hi:=BL) Tryz.func194 rfl rfl (by decide +kernel) (by simp) ?_
 unfold ki at h
 obtain ⟨r01,g1,h⟩:=ae h
 simp(config:=cS)only[go_sem]
 refine ag (lK g1) ?_
 obtain ⟨q05,l2,h⟩:=ae h
 simp(config:=cS)only[go_sem]
 refine ao (m1:=.mk) (m2:=.mk) [.nf [3,4,6,7,12,13,14] [192,256,384,448,704,705]] (ou ties ((ties.length:Nat):Int) s.nodes s.ties s.horizon v1.now v1.times v1.values r01.now r01.values) l2 ?_ ?_
 ·simp(config:=cS)only[go_sem]
 ·intro nb3 sb3 bb3 b3 gb3
  obtain ⟨v14_1,h704_1⟩:=sb3
  unfold hU at b3
  try dsimp only at b3
  obtain ⟨h4,b3⟩|⟨h4,b3⟩:=af b3
  ·obtain ⟨x02,g5,b3⟩:=ae b3
   obtain ⟨h6,h7,h8⟩:=ai g5
   obtain ⟨x03,g9,b3⟩:=ae b3
   obtain ⟨h10,h11,h12⟩:=ai g9
   obtain ⟨x04,g13,b3⟩:=ae b3
   obtain ⟨h14,h15,h16⟩:=ai g13
   cases b3
   simp(config:=cS)only[go_sem,eqT h4,h6,h7,h8,h10,h11,h12,h14,h15,h16]
   refine ar gb3 ?_
   simp(config:=cS)only[go_sem]
  ·cases b3
   obtain rfl:=(al gb3).symm
   try dsimp only at h
   cases h
   simp(config:=cS)only[go_sem,eqF h4]
attribute [go_sem] Tryz.ntmps351 Tryz.results351
theorem un {t:GTie}{node:Int}{res:Bool}(h:iw t node=some res):ap Tryz.prog 351 [.agg (GTie.enc t),.loc [.lit (.int .i64 node)]] [] (.lit (.bool res)) []:=by
 refine aj (ra:=[]) (md:=mdT) hT (hi:=hi00) Tryz.func351 rfl rfl (by decide +kernel) (by simp) ?_
 unfold iw at h
 obtain ⟨h1,h⟩|⟨h1,h⟩:=af h
 ·cases h
  simp(config:=cS)only[go_sem,eZt h1]
 ·cases h
  simp(config:=cS)only[go_sem,eZf h1]
attribute [go_sem] Tryz.ntmps334 Tryz.results334
theorem yV {s:GShow}{node res:Int}(h:iQ s node=some res):ap Tryz.prog 334 [.agg (GShow.encS s),.lit (.int .i64 node)] [] (.lit (.int .i64 res)) []:=by
 refine aj (ra:=[]) (md:=mdT) hT (hi:=hi00) Tryz.func334 rfl rfl (by decide +kernel) (by simp) ?_
 unfold iQ at h
 obtain ⟨r01,g1,h⟩:=ae h
 simp(config:=cS)only[go_sem]
 refine ag (lf (by exact fun _ _ hr=>un hr) (by refine ⟨fun _=>?_,fun _=>?_⟩ <;> simp only [go_sem]) (fun _=>rfl) rfl g1) ?_
 cases h
 simp(config:=cS)only[go_sem]
def nr (b:List GNode)(c:List GTie)(d:Int):(Int × (List Int))→St
 | (i,a)=>⟨[(1,.ptr 64 1 0 0),(3,.ref 255 1 0 a.length),(4,.lit (.int .i64 i))],[(64,1,.var [.sl (ab GNode.encS b),.sl (ab GTie.enc c),.lit (.int .i64 d)]),(255,1,.row true (ab eI a))],2⟩
attribute [go_sem] nr
attribute [go_sem] Tryz.ntmps305 Tryz.results305
theorem AO {s:GShow}{res:List Int}(h:jy s=some res):ap Tryz.prog 305 [.agg (GShow.encS s)] [] (.ref 20000 1 0 res.length) [(20000,1,.row true (ab eI res))]:=by
 refine aj (ra:=[.home 2]) (md:=mdT) hT (hi:=hi00) Tryz.func305 rfl rfl (by decide +kernel) (by simp) ?_
 unfold jy at h
 obtain ⟨q02,l1,h⟩:=ae h
 simp(config:=cS)only[go_sem]
 refine ao (m1:=.mk) (m2:=.mk) [.home 3,.nf [1,3,4] [64,255]] (nr s.nodes s.ties s.horizon) l1 ?_ ?_
 ·simp(config:=cS)only[go_sem]
 ·intro nb2 sb2 bb2 b2 gb2
  obtain ⟨i_1,out_1⟩:=sb2
  unfold gH at b2
  try dsimp only at b2
  obtain ⟨h3,b2⟩|⟨h3,b2⟩:=af b2
  ·obtain ⟨r01,g4,b2⟩:=ae b2
   simp(config:=cS)only[go_sem,eqT h3]
   refine ag (yV g4) ?_
   obtain ⟨h5,b2⟩|⟨h5,b2⟩:=af b2
   ·obtain ⟨h6,b2⟩:=ak b2
    obtain ⟨h7,b2⟩:=ak b2
    cases b2
    simp(config:=cS)only[go_sem,eqT h5,eqT h6,eqT h7]
    refine ar gb2 ?_
    simp(config:=cS)only[go_sem]
   ·cases b2
    simp(config:=cS)only[go_sem,eqF h5]
    refine ar gb2 ?_
    simp(config:=cS)only[go_sem]
  ·cases b2
   obtain rfl:=(al gb2).symm
   try dsimp only at h
   cases h
   simp(config:=cS)only[go_sem,eqF h3]
def iq (c:Bool)(a:Nat)(b:List AV):(Int × Int × (List Int))→St
 | (e,f,d)=>⟨[(0,.ref 10000 0 0 d.length),(1,.fn a b),(5,.lit (.int .i64 e)),(6,.lit (.int .i64 f))],[(10000,0,.row c (ab eI d))],2⟩
attribute [go_sem] iq
attribute [go_sem] Tryz.ntmps186 Tryz.results186
theorem pL {v0:List Int}{v1:Int→Option Bool}{zb0:Bool}{f_v1:Nat}{k_v1:List AV}(hp_v1:∀ y0 r,v1 y0=some r→ap Tryz.prog f_v1 ([.lit (.int .i64 y0)]++k_v1) [] (.lit (.bool r)) [])(hc_v1:KC k_v1)(hm_v1:∀ a,mdT f_v1 a=⟨[],false⟩)(hk_v1:spf f_v1=false){res:List Int}(h:cB v0 v1=some res):ap Tryz.prog 186 [.ref 10000 0 0 v0.length,.fn f_v1 k_v1] [(10000,0,.row zb0 (ab eI v0))] (.ref 10000 0 0 res.length) [(10000,0,.row false (ab eI res))]:=by
 refine aj (ra:=[.home 4,.trim 4]) (md:=mdT) hT (hi:=hi00) Tryz.func186 rfl rfl (by decide +kernel) (by simp) ?_
 unfold cB at h
 obtain ⟨r01,g1,h⟩:=ae h
 simp(config:=cS)only[go_sem,hc_v1.1,hc_v1.2,hm_v1,hk_v1]
 refine ag (lg hp_v1 hc_v1 hm_v1 hk_v1 g1) ?_
 obtain ⟨h2,h⟩|⟨h2,h⟩:=af h
 ·cases h
  simp(config:=cS)only[go_sem,hc_v1.1,hc_v1.2,hm_v1,hk_v1,eqT h2]
 ·obtain ⟨q05,l3,h⟩:=ae h
  simp(config:=cS)only[go_sem,hc_v1.1,hc_v1.2,hm_v1,hk_v1,eqF h2]
  refine ao (m1:=.mk) (m2:=.mk) [.nf [0,1,5,6] [10000]] (iq zb0 f_v1 k_v1) l3 ?_ ?_
  ·simp(config:=cS)only[go_sem,hc_v1.1,hc_v1.2,hm_v1,hk_v1,eqF h2]
  ·intro nb4 sb4 bb4 b4 gb4
   obtain ⟨v5_1,v6_1,v0_1⟩:=sb4
   unfold bP at b4
   try dsimp only at b4
   obtain ⟨h5,b4⟩|⟨h5,b4⟩:=af b4
   ·obtain ⟨x02,g6,b4⟩:=ae b4
    obtain ⟨h7,h8,h9⟩:=ai g6
    obtain ⟨r03,g10,b4⟩:=ae b4
    simp(config:=cS)only[go_sem,hc_v1.1,hc_v1.2,hm_v1,hk_v1,eqF h2,eqT h5,h7,h8,h9]
    refine ag (hp_v1 _ _ g10) ?_
    obtain ⟨h11,b4⟩|⟨h11,b4⟩:=af b4
    ·cases b4
     simp(config:=cS)only[go_sem,hc_v1.1,hc_v1.2,hm_v1,hk_v1,eqF h2,eqT h5,h7,h8,h9,eZt h11]
     refine ar gb4 ?_
     simp(config:=cS)only[go_sem,hc_v1.1,hc_v1.2,hm_v1,hk_v1,eqF h2,eqT h5,h7,h8,h9,eZt h11]
    ·obtain ⟨x04,g12,b4⟩:=ae b4
     obtain ⟨h13,h14,h15⟩:=ai g12
     cases b4
     simp(config:=cS)only[go_sem,hc_v1.1,hc_v1.2,hm_v1,hk_v1,eqF h2,eqT h5,h7,h8,h9,eZf h11,h13,h14,h15]
     refine ar gb4 ?_
     simp(config:=cS)only[go_sem,hc_v1.1,hc_v1.2,hm_v1,hk_v1,eqF h2,eqT h5,h7,h8,h9,eZf h11,h13,h14,h15]
   ·cases b4
    obtain rfl:=(al gb4).symm
    try dsimp only at h
    obtain ⟨h17,h⟩:=ak h
    obtain ⟨h18,h⟩:=ak h
    obtain ⟨h19,h⟩:=ak h
    cases h
    simp(config:=cS)only[go_sem,hc_v1.1,hc_v1.2,hm_v1,hk_v1,eqF h2,eqF h5,eqT h17,eqT h18,eqT h19]
attribute [go_sem] Tryz.ntmps268 Tryz.results268
theorem sX {n:Int}{res:Bool}(h:hY n=some res):ap Tryz.prog 268 [.lit (.int .i64 n)] [] (.lit (.bool res)) []:=by
 refine aj (ra:=[]) (md:=mdT) hT (hi:=hi00) Tryz.func268 rfl rfl (by decide +kernel) (by simp) ?_
 unfold hY at h
 obtain ⟨h1,h⟩|⟨h1,h⟩:=af h
 ·cases h
  simp(config:=cS)only[go_sem,eqT h1]
 ·cases h
  simp(config:=cS)only[go_sem,eqF h1]
attribute [go_sem] Tryz.ntmps201 Tryz.results201
theorem xG {v:List Int}{res:Bool}(h:hZ v=some res):ap Tryz.prog 201 [.sl (ab eI v)] [] (.lit (.bool res)) []:=by
 refine aj (ra:=[]) (md:=mdT) hT (hi:=hi00) Tryz.func201 rfl rfl (by decide +kernel) (by simp) ?_
 unfold hZ at h
 obtain ⟨h1,h⟩|⟨h1,h⟩:=af h
 ·obtain ⟨r01,g2,h⟩:=ae h
  simp(config:=cS)only[go_sem,eqT h1]
  refine ag (fW (by exact fun _ _ hr=>sX hr) (by refine ⟨fun _=>?_,fun _=>?_⟩ <;> simp only [go_sem]) (fun _=>rfl) rfl g2) ?_
  cases h
  simp(config:=cS)only[go_sem]
 ·cases h
  simp(config:=cS)only[go_sem,eqF h1]
attribute [go_sem] Tryz.ntmps202 Tryz.results202
theorem Cz {l:Int}{v:List Int}{res:Int}(h:kj l v=some res):ap Tryz.prog 202 [.lit (.int .i64 l),.sl (ab eI v)] [] (.lit (.int .i64 res)) []:=by
 refine aj (ra:=[]) (md:=mdT) hT (hi:=hi00) Tryz.func202 rfl rfl (by decide +kernel) (by simp) ?_
 unfold kj at h
 obtain ⟨r01,g1,h⟩:=ae h
 simp(config:=cS)only[go_sem]
 refine ag (fD g1) ?_
 obtain ⟨x02,g2,h⟩:=ae h
 obtain ⟨h3,h4,h5⟩:=ai g2
 obtain ⟨h6,h⟩|⟨h6,h⟩:=af h
 ·cases h
  simp(config:=cS)only[go_sem,h3,h4,h5,eqT h6]
 ·cases h
  simp(config:=cS)only[go_sem,h3,h4,h5,eqF h6]
def kH (v a:List Int)(b:Int):(Int × Int)→St
 | (c,d)=>⟨[(1,.sl (ab eI v)),(5,.lit (.int .i64 c)),(16,.sl (ab eI a)),(17,.lit (.int .i64 b)),(18,.lit (.int .i64 d))],[],2⟩
attribute [go_sem] kH
attribute [go_sem] Tryz.ntmps126 Tryz.results126
theorem uo {l v:List Int}{res:Int}(h:fQ l v=some res):ap Tryz.prog 126 [.sl (ab eI l),.sl (ab eI v)] [] (.lit (.int .i64 res)) []:=by
 refine aj (ra:=[]) (md:=mdT) hT (hi:=hi00) Tryz.func126 rfl rfl (by decide +kernel) (by simp) ?_
 unfold fQ at h
 obtain ⟨r01,g1,h⟩:=ae h
 simp(config:=cS)only[go_sem]
 refine ag (gj g1) ?_
 obtain ⟨h2,h⟩|⟨h2,h⟩:=af h
 ·obtain ⟨r02,g3,h⟩:=ae h
  simp(config:=cS)only[go_sem,eZt h2]
  refine ag (xG g3) ?_
  obtain ⟨h4,h⟩|⟨h4,h⟩:=af h
  ·obtain ⟨q05,l5,h⟩:=ae h
   simp(config:=cS)only[go_sem,eZt h2,eZt h4]
   refine ao (m1:=.mk) (m2:=.mk) [.nf [1,5,16,17,18] []] (kH v l ((l.length:Nat):Int)) l5 ?_ ?_
   ·simp(config:=cS)only[go_sem,eZt h2,eZt h4]
   ·intro nb6 sb6 bb6 b6 gb6
    obtain ⟨out_1,v18_1⟩:=sb6
    unfold dG at b6
    try dsimp only at b6
    obtain ⟨h7,b6⟩|⟨h7,b6⟩:=af b6
    ·obtain ⟨x03,g8,b6⟩:=ae b6
     obtain ⟨h9,h10,h11⟩:=ai g8
     obtain ⟨r04,g12,b6⟩:=ae b6
     simp(config:=cS)only[go_sem,eZt h2,eZt h4,eqT h7,h9,h10,h11]
     refine ag (Cz g12) ?_
     cases b6
     simp(config:=cS)only[go_sem,eZt h2,eZt h4,eqT h7,h9,h10,h11]
     refine ar gb6 ?_
     simp(config:=cS)only[go_sem,eZt h2,eZt h4,eqT h7,h9,h10,h11]
    ·cases b6
     obtain rfl:=(al gb6).symm
     try dsimp only at h
     cases h
     simp(config:=cS)only[go_sem,eZt h2,eZt h4,eqF h7]
  ·cases h
   simp(config:=cS)only[go_sem,eZt h2,eZf h4]
 ·cases h
  simp(config:=cS)only[go_sem,eZf h2]
@[go_sem] def hi279_1:DT:=.i2 0 (.i2 1 (.i2 2 (.i2 3 (.i2 4 (.i2 5 (.i2 6 (.i2 7 (.i2 8 (.i2 9 .nil)))))))))
def BM:Hint where
 acts:=fun _=>[]
 draws:=fun
  | 1=>⟨hi279_1,[[],[0],[],[0,1,2],[0,1,2,3],.range 5,[],[6],.range 8,.range 9],.range 10⟩
  | _=>⟨.nil,[],[]⟩
theorem Mg (i:Nat):BM.acts i=[]:=rfl
theorem Mh (i:Nat):BM.views i=none:=rfl
attribute [go_sem] Mg Mh Tryz.ntmps279 Tryz.results279
@[go_sem] theorem Oi:(BM.draws 1).order=hi279_1:=rfl
theorem vK {s:GShow}{v1:GState}{node res:Int}(h:jg s v1 node=some res):ap Tryz.prog 279 [.agg (GShow.encS s),.agg (GState.encS v1),.lit (.int .i64 node)] [] (.lit (.int .i64 res)) []:=by
 refine aj (ra:=[]) (md:=mdT) hT (hi:=BM) Tryz.func279 rfl rfl (by decide +kernel) (by simp) ?_
 unfold jg at h
 obtain ⟨x01,g1,h⟩:=ae h
 obtain ⟨h2,h3,h4⟩:=ai g1
 obtain ⟨r02,g5,h⟩:=ae h
 simp(config:=cS)only[go_sem,h2,h3,h4]
 refine ag (uo g5) ?_
 cases h
 simp(config:=cS)only[go_sem]
attribute [go_sem] Tryz.ntmps306 Tryz.results306
theorem uq {i:Int}{v1:GState}{s:GShow}{res:Bool}(h:ix i v1 s=some res):ap Tryz.prog 306 [.lit (.int .i64 i),.loc [.lit (.int .i64 v1.now),.sl (ab eI v1.times),.sl (ab eI v1.values)],.loc [.sl (ab GNode.encS s.nodes),.sl (ab GTie.enc s.ties),.lit (.int .i64 s.horizon)]] [] (.lit (.bool res)) []:=by
 refine aj (ra:=[]) (md:=mdT) hT (hi:=hi00) Tryz.func306 rfl rfl (by decide +kernel) (by simp) ?_
 unfold ix at h
 obtain ⟨x01,g1,h⟩:=ae h
 obtain ⟨h2,h3,h4⟩:=ai g1
 obtain ⟨h5,h⟩|⟨h5,h⟩:=af h
 ·obtain ⟨r02,g6,h⟩:=ae h
  simp(config:=cS)only[go_sem,h2,h3,h4,eqT h5]
  refine ag (vK g6) ?_
  cases h
  simp(config:=cS)only[go_sem]
 ·cases h
  simp(config:=cS)only[go_sem,h2,h3,h4,eqF h5]
attribute [go_sem] Tryz.ntmps267 Tryz.results267
theorem yW {s:GShow}{v1:GState}{res:List Int}(h:iR s v1=some res):ap Tryz.prog 267 [.agg (GShow.encS s),.agg (GState.encS v1)] [] (.ref 20000 1 0 res.length) [(20000,1,.row false (ab eI res))]:=by
 refine aj (ra:=[.home 4,.trim 4]) (md:=mdT) hT (hi:=hi00) Tryz.func267 rfl rfl (by decide +kernel) (by simp) ?_
 unfold iR at h
 obtain ⟨r01,g1,h⟩:=ae h
 simp(config:=cS)only[go_sem]
 refine ag (AO g1) ?_
 obtain ⟨r02,g2,h⟩:=ae h
 simp(config:=cS)only[go_sem]
 refine ag (pL (by exact fun _ _ hr=>uq hr) (by refine ⟨fun _=>?_,fun _=>?_⟩ <;> simp only [go_sem]) (fun _=>rfl) rfl g2) ?_
 cases h
 simp(config:=cS)only[go_sem]
def lj (a:List Int):(Int × (List (List Int)))→St
 | (c,b)=>⟨[(5,.ref 640 1 0 a.length),(6,.ref 447 1 0 b.length),(7,.lit (.int .i64 c))],[(640,1,.row false (ab eI a)),(447,1,.row true (ab (eLO eI) b))],2⟩
attribute [go_sem] lj
attribute [go_sem] Tryz.ntmps195 Tryz.results195
theorem vL {s:GShow}{v1:GState}{res:List (List Int)}(h:gI s v1=some res):ap Tryz.prog 195 [.agg (GShow.encS s),.agg (GState.encS v1)] [] (.ref 20000 1 0 res.length) [(20000,1,.row true (ab (eLO eI) res))]:=by
 refine aj (ra:=[.home 4]) (md:=mdT) hT (hi:=hi00) Tryz.func195 rfl rfl (by decide +kernel) (by simp) ?_
 unfold gI at h
 obtain ⟨r01,g1,h⟩:=ae h
 simp(config:=cS)only[go_sem]
 refine ag (yW g1) ?_
 obtain ⟨h2,h⟩:=ak h
 obtain ⟨q03,l3,h⟩:=ae h
 simp(config:=cS)only[go_sem,eqF h2]
 refine ao (m1:=.mk) (m2:=.mk) [.home 6,.nf [5,6,7] [640,447]] (lj r01) l3 ?_ ?_
 ·simp(config:=cS)only[go_sem]
 ·intro nb4 sb4 bb4 b4 gb4
  obtain ⟨set_1,out_1⟩:=sb4
  unfold eu at b4
  try dsimp only at b4
  obtain ⟨h5,b4⟩|⟨h5,b4⟩:=af b4
  ·obtain ⟨r02,g6,b4⟩:=ae b4
   simp(config:=cS)only[go_sem,eqT h5]
   refine ag (qQ g6) ?_
   obtain ⟨h7,b4⟩:=ak b4
   obtain ⟨h8,b4⟩:=ak b4
   cases b4
   simp(config:=cS)only[go_sem,eqT h7,eqT h8]
   refine ar gb4 ?_
   simp(config:=cS)only[go_sem]
  ·cases b4
   obtain rfl:=(al gb4).symm
   try dsimp only at h
   cases h
   simp(config:=cS)only[go_sem,eqF h5]
def mU (h:List Int)(i:Int)(j:List GNode)(k:List GTie)(l e:Int)(f g:List Int)(d:Int)(b:List Int):(Int × (List Int) × (List Int))→St
 | (m,a,c)=>⟨[(3,.ptr 192 1 0 0),(4,.ptr 256 1 0 0),(6,.ptr 384 1 0 0),(8,.ptr 512 1 0 0),(9,.ref 639 1 0 a.length),(14,.sl (ab eI h)),(15,.lit (.int .i64 i)),(16,.lit (.int .i64 m))],[(192,1,.var [.sl (ab GNode.encS j),.sl (ab GTie.enc k),.lit (.int .i64 l)]),(256,1,.var [.lit (.int .i64 e),.sl (ab eI f),.sl (ab eI g)]),(384,1,.var [.lit (.int .i64 0),.lit (.slice none 0 0),.lit (.slice none 0 0)]),(512,1,.var [.lit (.int .i64 d),.ref 832 1 0 c.length,.ref 833 1 0 b.length]),(832,1,.row true (ab eI c)),(833,1,.row true (ab eI b)),(639,1,.row true (ab eI a))],2⟩
attribute [go_sem] mU
attribute [go_sem] Tryz.ntmps196 Tryz.results196
theorem yX {s:GShow}{v1:GState}{nodes:List Int}{res:GState × (List Int)}(h:iS s v1 nodes=some res):ap Tryz.prog 196 [.agg (GShow.encS s),.agg (GState.encS v1),.sl (ab eI nodes)] [] (.tup [.agg [.lit (.int .i64 res.1.now),.ref 20000 1 0 res.1.times.length,.ref 20001 1 0 res.1.values.length],.ref 20002 1 0 res.2.length]) [(20000,1,.row true (ab eI res.1.times)),(20001,1,.row true (ab eI res.1.values)),(20002,1,.row true (ab eI res.2))]:=by
 refine aj (ra:=[.homeCell 384 1,.homeCell 384 2,.home 7]) (md:=mdT) hT (hi:=hi00) Tryz.func196 rfl rfl (by decide +kernel) (by simp) ?_
 unfold iS at h
 obtain ⟨r01,g1,h⟩:=ae h
 simp(config:=cS)only[go_sem]
 refine ag (lK g1) ?_
 obtain ⟨q06,l2,h⟩:=ae h
 simp(config:=cS)only[go_sem]
 refine ao (m1:=.mk) (m2:=.mk) [.home 9,.nf [3,4,6,8,9,14,15,16] [192,256,384,512,832,833,639]] (mU nodes ((nodes.length:Nat):Int) s.nodes s.ties s.horizon v1.now v1.times v1.values r01.now r01.values) l2 ?_ ?_
 ·simp(config:=cS)only[go_sem]
 ·intro nb3 sb3 bb3 b3 gb3
  obtain ⟨v16_1,props_1,h832_1⟩:=sb3
  unfold fR at b3
  try dsimp only at b3
  obtain ⟨h4,b3⟩|⟨h4,b3⟩:=af b3
  ·obtain ⟨x02,g5,b3⟩:=ae b3
   obtain ⟨h6,h7,h8⟩:=ai g5
   obtain ⟨x03,g9,b3⟩:=ae b3
   obtain ⟨h10,h11,h12⟩:=ai g9
   obtain ⟨x04,g13,b3⟩:=ae b3
   obtain ⟨h14,h15,h16⟩:=ai g13
   obtain ⟨h17,b3⟩|⟨h17,b3⟩:=af b3
   ·cases b3
    simp(config:=cS)only[go_sem,eqT h4,h6,h7,h8,h10,h11,h12,h14,h15,h16,eqT h17]
    refine ar gb3 ?_
    simp(config:=cS)only[go_sem]
   ·obtain ⟨h18,b3⟩:=ak b3
    obtain ⟨h19,b3⟩:=ak b3
    cases b3
    simp(config:=cS)only[go_sem,eqT h4,h6,h7,h8,h10,h11,h12,h14,h15,h16,eqF h17,eqT h18,eqT h19]
    refine ar gb3 ?_
    simp(config:=cS)only[go_sem]
  ·cases b3
   obtain rfl:=(al gb3).symm
   try dsimp only at h
   obtain ⟨r05,g21,h⟩:=ae h
   simp(config:=cS)only[go_sem,eqF h4]
   refine ag (oJ g21) ?_
   obtain ⟨h22,h⟩:=ak h
   cases h
   simp(config:=cS)only[go_sem,h22.symm]
def mf (a e:List Int)(f d:Int)(b:List Int):(Int × (List Int))→St
 | (g,c)=>⟨[(2,.sl (ab eI a)),(6,.ptr 384 1 0 0),(7,.ptr 448 1 0 0),(12,.sl (ab eI e)),(13,.lit (.int .i64 f)),(14,.lit (.int .i64 g))],[(384,1,.var [.lit (.int .i64 0),.lit (.slice none 0 0),.lit (.slice none 0 0)]),(448,1,.var [.lit (.int .i64 d),.ref 704 1 0 b.length,.ref 705 1 0 c.length]),(704,1,.row true (ab eI b)),(705,1,.row true (ab eI c))],2⟩
attribute [go_sem] mf
@[go_sem] def hi198_5:DT:=.i2 0 (.i2 1 (.i2 2 (.i2 3 (.i2 4 (.i2 5 (.i2 6 (.i2 7 (.i2 8 (.i2 9 .nil)))))))))
def BN:Hint where
 acts:=fun _=>[]
 draws:=fun
  | 5=>⟨hi198_5,[[],[0],[],[2],[],[],[4,5],[4,5,6],.range 8,.range 9],.range 10⟩
  | _=>⟨.nil,[],[]⟩
theorem Mi (i:Nat):BN.acts i=[]:=rfl
theorem Mj (i:Nat):BN.views i=none:=rfl
attribute [go_sem] Mi Mj Tryz.ntmps198 Tryz.results198
@[go_sem] theorem Oj:(BN.draws 5).order=hi198_5:=rfl
theorem xH {v0:GState}{props values:List Int}{res:GState}(h:ia v0 props values=some res):ap Tryz.prog 198 [.agg (GState.encS v0),.sl (ab eI props),.sl (ab eI values)] [] (.agg [.lit (.int .i64 res.now),.ref 20000 1 0 res.times.length,.ref 20001 1 0 res.values.length]) [(20000,1,.row true (ab eI res.times)),(20001,1,.row true (ab eI res.values))]:=by
 refine aj (ra:=[.homeCell 384 1,.homeCell 384 2]) (md:=mdT) hT (hi:=BN) Tryz.func198 rfl rfl (by decide +kernel) (by simp) ?_
 unfold ia at h
 obtain ⟨r01,g1,h⟩:=ae h
 simp(config:=cS)only[go_sem]
 refine ag (lK g1) ?_
 obtain ⟨q05,l2,h⟩:=ae h
 simp(config:=cS)only[go_sem]
 refine ao (m1:=.mk) (m2:=.mk) [.nf [2,6,7,12,13,14] [384,448,704,705]] (mf values props ((props.length:Nat):Int) r01.now r01.times) l2 ?_ ?_
 ·simp(config:=cS)only[go_sem]
 ·intro nb3 sb3 bb3 b3 gb3
  obtain ⟨v14_1,h705_1⟩:=sb3
  unfold fk at b3
  try dsimp only at b3
  obtain ⟨h4,b3⟩|⟨h4,b3⟩:=af b3
  ·obtain ⟨x02,g5,b3⟩:=ae b3
   obtain ⟨h6,h7,h8⟩:=ai g5
   obtain ⟨x03,g9,b3⟩:=ae b3
   obtain ⟨h10,h11,h12⟩:=ai g9
   obtain ⟨x04,g13,b3⟩:=ae b3
   obtain ⟨h14,h15,h16⟩:=ai g13
   cases b3
   simp(config:=cS)only[go_sem,eqT h4,h6,h7,h8,h10,h11,h12,h14,h15,h16]
   refine ar gb3 ?_
   simp(config:=cS)only[go_sem]
  ·cases b3
   obtain rfl:=(al gb3).symm
   try dsimp only at h
   cases h
   simp(config:=cS)only[go_sem,eqF h4]
def ov (g:List Int)(h e:Int)(b c d:List Int):(Int × (List Int) × (List Int))→St
 | (i,f,a)=>⟨[(6,.ptr 384 1 0 0),(9,.ptr 576 1 0 0),(10,.ref 3458 1 0 d.length),(11,.ref 767 1 0 f.length),(12,.ref 831 1 0 a.length),(58,.sl (ab eI g)),(59,.lit (.int .i64 h)),(60,.lit (.int .i64 i))],[(384,1,.var [.lit (.int .i64 0),.lit (.slice none 0 0),.lit (.slice none 0 0)]),(576,1,.var [.lit (.int .i64 e),.ref 3456 1 0 b.length,.ref 3457 1 0 c.length]),(3456,1,.row true (ab eI b)),(3457,1,.row true (ab eI c)),(3458,1,.row true (ab eI d)),(767,1,.row true (ab eI f)),(831,1,.row true (ab eI a))],2⟩
attribute [go_sem] ov
@[go_sem] def hi110_4:DT:=.i2 0 (.i2 1 (.i1 3 (.i1 4 (.i0 2 [3,4] (.i2 5 (.i2 6 .nil))))))
@[go_sem] def hi110_1:DT:=.i2 0 (.i2 1 (.i2 2 (.i2 3 (.i2 4 (.i2 5 (.i2 6 (.i2 7 (.i1 9 (.i1 10 (.i0 8 [9,10] (.i2 11 (.i2 12 (.i2 13 (.i2 14 (.i2 15 (.i2 16 (.i2 17 (.i2 18 (.i2 19 .nil)))))))))))))))))))
def xI:Hint where
 acts:=fun _=>[]
 draws:=fun
  | 1=>⟨hi110_1,[[],[0],[],[2],[0,1,2,3],.range 5,.range 6,.range 6,.range 8,.range 6,[0,1,2,3,4,5,9],.range 11,.range 12,.range 13,.range 14,.range 15,.range 16,.range 17,.range 18,.range 19],.range 20⟩
  | 4=>⟨hi110_4,[[],[],[0,1],[],[3],.range 5,.range 6],.range 7⟩
  | _=>⟨.nil,[],[]⟩
theorem Ml (i:Nat):xI.acts i=[]:=rfl
theorem Mm (i:Nat):xI.views i=none:=rfl
attribute [go_sem] Ml Mm Tryz.ntmps110 Tryz.results110
@[go_sem] theorem Ok:(xI.draws 1).order=hi110_1:=rfl
@[go_sem] theorem Ol:(xI.draws 4).order=hi110_4:=rfl
theorem CA {s:GShow}{v1:GState}{e:GEntry}{res:GState × Bool}(h:kk s v1 e=some res):ap Tryz.prog 110 [.agg (GShow.encS s),.agg (GState.encS v1),.agg (GEntry.encS e)] [] (.tup [.agg [.lit (.int .i64 res.1.now),.ref 20000 1 0 res.1.times.length,.ref 20001 1 0 res.1.values.length],.lit (.bool res.2)]) [(20000,1,.row true (ab eI res.1.times)),(20001,1,.row true (ab eI res.1.values))]:=by
 refine aj (ra:=[.homeCell 384 1,.homeCell 384 2]) (md:=mdT) hT (hi:=xI) Tryz.func110 rfl rfl (by decide +kernel) (by simp) ?_
 unfold kk at h
 obtain ⟨h1,h⟩|⟨h1,h⟩:=af h
 ·obtain ⟨r01,g2,h⟩:=ae h
  simp(config:=cS)only[go_sem,eqT h1]
  refine ag (yU g2) ?_
  obtain ⟨r02,g3,h⟩:=ae h
  simp(config:=cS)only[go_sem,eqT h1]
  refine ag (xF g3) ?_
  obtain ⟨h4,h⟩|⟨h4,h⟩:=af h
  ·obtain ⟨r03,g5,h⟩:=ae h
   simp(config:=cS)only[go_sem,eqT h1,eZt h4]
   refine ag (gj g5) ?_
   obtain ⟨h6,h⟩|⟨h6,h⟩:=af h
   ·obtain ⟨r04,g7,h⟩:=ae h
    simp(config:=cS)only[go_sem,eqT h1,eZt h4,eZt h6]
    refine ag (Cy g7) ?_
    obtain ⟨r05,g8,h⟩:=ae h
    simp(config:=cS)only[go_sem,eqT h1,eZt h4,eZt h6]
    refine ag (vL g8) ?_
    obtain ⟨r06,g9,h⟩:=ae h
    simp(config:=cS)only[go_sem,eqT h1,eZt h4,eZt h6]
    refine ag (xF g9) ?_
    obtain ⟨h10,h⟩|⟨h10,h⟩:=af h
    ·obtain ⟨r07,g11,h⟩:=ae h
     simp(config:=cS)only[go_sem,eqT h1,eZt h4,eZt h6,eZt h10]
     refine ag (yX g11) ?_
     obtain ⟨q13,l12,h⟩:=ae h
     simp(config:=cS)only[go_sem,eqT h1,eZt h4,eZt h6,eZt h10]
     refine ao (m1:=.mk) (m2:=.mk) [.home 11,.home 12,.nf [6,9,10,11,12,58,59,60] [384,576,3456,3457,3458,767,831]] (ov e.values ((e.values.length:Nat):Int) r07.1.now r07.1.times r07.1.values r07.2) l12 ?_ ?_
     ·simp(config:=cS)only[go_sem,eqT h1,eZt h4,eZt h6,eZt h10]
     ·intro nb13 sb13 bb13 b13 gb13
      obtain ⟨v60_1,seen_1,values_1⟩:=sb13
      unfold ib at b13
      try dsimp only at b13
      obtain ⟨h14,b13⟩|⟨h14,b13⟩:=af b13
      ·obtain ⟨x08,g15,b13⟩:=ae b13
       obtain ⟨h16,h17,h18⟩:=ai g15
       obtain ⟨r09,g19,b13⟩:=ae b13
       simp(config:=cS)only[go_sem,eqT h1,eZt h4,eZt h6,eZt h10,eqT h14,h16,h17,h18]
       refine ag (fD g19) ?_
       obtain ⟨h20,b13⟩:=ak b13
       obtain ⟨h21,b13⟩:=ak b13
       obtain ⟨r10,g22,b13⟩:=ae b13
       simp(config:=cS)only[go_sem,eqT h1,eZt h4,eZt h6,eZt h10,eqT h14,h16,h17,h18,eqT h20,eqT h21]
       refine ag (fD g22) ?_
       obtain ⟨h23,b13⟩:=ak b13
       obtain ⟨h24,b13⟩:=ak b13
       obtain ⟨h25,b13⟩:=ak b13
       cases b13
       simp(config:=cS)only[go_sem,eqT h1,eZt h4,eZt h6,eZt h10,eqT h14,h16,h17,h18,eqT h20,eqT h21,eqF h23,eqT h24,eqT h25]
       refine ar gb13 ?_
       simp(config:=cS)only[go_sem,eqT h1,eZt h4,eZt h6,eZt h10,eqT h14,h16,h17,h18,eqT h20,eqT h21,eqF h23,eqT h24,eqT h25]
      ·cases b13
       obtain rfl:=(al gb13).symm
       try dsimp only at h
       obtain ⟨r11,g27,h⟩:=ae h
       simp(config:=cS)only[go_sem,eqT h1,eZt h4,eZt h6,eZt h10,eqF h14]
       refine ag (kg g27) ?_
       obtain ⟨h28,h⟩|⟨h28,h⟩:=af h
       ·obtain ⟨r12,g29,h⟩:=ae h
        simp(config:=cS)only[go_sem,eqT h1,eZt h4,eZt h6,eZt h10,eqF h14,eZt h28]
        refine ag (xH g29) ?_
        cases h
        simp(config:=cS)only[go_sem,eqT h1,eZt h4,eZt h6,eZt h10,eqF h14,eZt h28]
       ·cases h
        simp(config:=cS)only[go_sem,eqT h1,eZt h4,eZt h6,eZt h10,eqF h14,eZf h28]
    ·cases h
     simp(config:=cS)only[go_sem,eqT h1,eZt h4,eZt h6,eZf h10]
   ·cases h
    simp(config:=cS)only[go_sem,eqT h1,eZt h4,eZf h6]
  ·cases h
   simp(config:=cS)only[go_sem,eqT h1,eZf h4]
 ·cases h
  simp(config:=cS)only[go_sem,eqF h1]
def lk (d:List GEntry)(e:Int)(f:List GNode)(g:List GTie)(h:Int):(Int × Int × (List Int) × (List Int))→St
 | (i,c,a,b)=>⟨[(2,.ptr 128 1 0 0),(4,.ptr 256 1 0 0),(6,.ptr 384 1 0 0),(17,.sl (ab GEntry.encS d)),(18,.lit (.int .i64 e)),(19,.lit (.int .i64 i))],[(128,1,.var [.sl (ab GNode.encS f),.sl (ab GTie.enc g),.lit (.int .i64 h)]),(256,1,.var [.lit (.int .i64 0),.lit (.slice none 0 0),.lit (.slice none 0 0)]),(384,1,.var [.lit (.int .i64 c),.ref 1024 1 0 a.length,.ref 1025 1 0 b.length]),(1024,1,.row true (ab eI a)),(1025,1,.row true (ab eI b))],2⟩
attribute [go_sem] lk
attribute [go_sem] Tryz.ntmps45 Tryz.results45
theorem vM {s:GShow}{log:List GEntry}{res:GState × Bool}(h:gJ s log=some res):ap Tryz.prog 45 [.agg (GShow.encS s),.sl (ab GEntry.encS log)] [] (.tup [.agg [.lit (.int .i64 res.1.now),.ref 20000 1 0 res.1.times.length,.ref 20001 1 0 res.1.values.length],.lit (.bool res.2)]) [(20000,1,.row true (ab eI res.1.times)),(20001,1,.row true (ab eI res.1.values))]:=by
 refine aj (ra:=[.homeCell 256 1,.homeCell 256 2]) (md:=mdT) hT (hi:=hi00) Tryz.func45 rfl rfl (by decide +kernel) (by simp) ?_
 unfold gJ at h
 obtain ⟨r01,g1,h⟩:=ae h
 simp(config:=cS)only[go_sem]
 refine ag (rW g1) ?_
 obtain ⟨h2,h⟩|⟨h2,h⟩:=af h
 ·obtain ⟨r02,g3,h⟩:=ae h
  simp(config:=cS)only[go_sem,eZt h2]
  refine ag (ul g3) ?_
  obtain ⟨q05,l4,h⟩:=ae h
  simp(config:=cS)only[go_sem]
  refine ao (m1:=.mk) (m2:=.mk) [.nfp [2,4,6,17,18,19] [(128,128),(256,256),(384,384),(1728,1024),(1024,1024),(1729,1025),(1025,1025)] []] (lk log ((log.length:Nat):Int) s.nodes s.ties s.horizon) l4 ?_ ?_
  ·simp(config:=cS)only[go_sem]
  ·intro nb5 sb5 bb5 b5 gb5
   obtain ⟨v19_1,v6_0_1,h1024_1,h1025_1⟩:=sb5
   unfold ew at b5
   try dsimp only at b5
   obtain ⟨h6,b5⟩|⟨h6,b5⟩:=af b5
   ·obtain ⟨x03,g7,b5⟩:=ae b5
    obtain ⟨h8,h9,h10⟩:=ai g7
    obtain ⟨r04,g11,b5⟩:=ae b5
    simp(config:=cS)only[go_sem,eqT h6,h8,h9,h10]
    refine ag (CA g11) ?_
    obtain ⟨h12,b5⟩|⟨h12,b5⟩:=af b5
    ·cases b5
     simp(config:=cS)only[go_sem,eZt h12]
     refine ar gb5 ?_
     simp(config:=cS)only[go_sem]
    ·cases b5
     obtain rfl:=(al gb5).symm
     try dsimp only at h
     cases h
     simp(config:=cS)only[go_sem,eZf h12]
   ·cases b5
    obtain rfl:=(al gb5).symm
    try dsimp only at h
    cases h
    simp(config:=cS)only[go_sem,eqF h6]
 ·cases h
  simp(config:=cS)only[go_sem,eZf h2]
attribute [go_sem] Tryz.ntmps155 Tryz.results155
def qR (d:List GNode)(e c:Int)(b:List GTie):(Int × (List GNode))→St
 | (f,a)=>⟨[(2,.ptr 128 1 0 0),(3,.ptr 192 1 0 0),(13,.sl (ab GNode.encS d)),(14,.lit (.int .i64 e)),(15,.lit (.int .i64 f))],[(128,1,.var [.lit (.slice none 0 0),.lit (.slice none 0 0),.lit (.int .i64 0)]),(192,1,.var [.ref 100012288 1 0 a.length,.ref 512 1 0 b.length,.lit (.int .i64 c)]),(100012288,1,.row true (ab GNode.encO a)),(512,1,.row true (ab GTie.enc b))],2⟩
attribute [go_sem] qR
@[go_sem] def hi84_1:DT:=.i1 0 (.i1 1 (.i1 3 (.i1 4 (.fork (.i0 2 [3,4] (.i2 5 (.i0 6 [0,1,3,4] (.i2 7 .nil)))) (.i0 6 [0,1,3,4] (.i0 2 [3,4] (.i2 5 (.i2 7 .nil))))))))
def hi84:Hint where
 acts:=fun _=>[]
 draws:=fun
  | 1=>⟨hi84_1,[[],[0],[0,1],[],[3],.range 5,[],.range 7],.range 8⟩
  | _=>⟨.nil,[],[]⟩
theorem Nj (i:Nat):hi84.acts i=[]:=rfl
theorem Nk (i:Nat):hi84.views i=none:=rfl
attribute [go_sem] Nj Nk Tryz.ntmps84 Tryz.results84
@[go_sem] theorem Oy:(hi84.draws 1).order=hi84_1:=rfl
@[go_sem] def hi32_5:DT:=.i2 0 (.i1 2 (.i2 3 (.i2 4 (.i0 1 [2] (.i2 5 (.i2 6 (.i2 7 .nil)))))))
def hi32:Hint where
 acts:=fun _=>[]
 draws:=fun
  | 5=>⟨hi32_5,[[],[0],[],[],[],.range 5,.range 6,.range 7],.range 8⟩
  | _=>⟨.nil,[],[]⟩
theorem Nl (i:Nat):hi32.acts i=[]:=rfl
theorem Nm (i:Nat):hi32.views i=none:=rfl
attribute [go_sem] Nl Nm Tryz.ntmps32 Tryz.results32
@[go_sem] theorem Oz:(hi32.draws 5).order=hi32_5:=rfl
def nu (a b:List Int)(i:Int):St:=⟨[(0,.sl (ab eI a)),(1,.sl (ab eI b)),(5,.lit (.int .i64 i))],[],2⟩
attribute [go_sem] nu
@[go_sem] def hi18_6:DT:=.i2 0 (.i2 1 (.i2 2 (.i2 3 (.i2 4 (.i2 5 (.i2 6 (.i2 7 (.i2 8 .nil))))))))
def hi18:Hint where
 acts:=fun _=>[]
 draws:=fun
  | 6=>⟨hi18_6,[[],[],[0,1],[0,1,2],[],[],[4,5],[4,5,6],.range 8],.range 9⟩
  | _=>⟨.nil,[],[]⟩
theorem Nn (i:Nat):hi18.acts i=[]:=rfl
theorem No (i:Nat):hi18.views i=none:=rfl
attribute [go_sem] Nn No Tryz.ntmps18 Tryz.results18
@[go_sem] theorem OA:(hi18.draws 6).order=hi18_6:=rfl
theorem lE {a b:List Int}{res:Bool}(h:dY a b=some res):ap Tryz.prog 18 [.sl (ab eI a),.sl (ab eI b)] [] (.lit (.bool res)) []:=by
 refine aj (ra:=[]) (md:=mdT) hT (hi:=hi18) Tryz.func18 rfl rfl (by decide +kernel) (by simp) ?_
 unfold dY at h
 obtain ⟨h1,h⟩|⟨h1,h⟩:=af h
 ·obtain ⟨q03,l2,h⟩:=ae h
  simp(config:=cS)only[go_sem,eqT h1]
  refine ao (m1:=.mk) (m2:=.mk) [.nf [0,1,5] []] (nu a b) l2 ?_ ?_
  ·simp(config:=cS)only[go_sem]
  ·intro nb3 i_1 bb3 b3 gb3
   unfold eU at b3
   try dsimp only at b3
   obtain ⟨h4,b3⟩|⟨h4,b3⟩:=af b3
   ·obtain ⟨x01,g5,b3⟩:=ae b3
    obtain ⟨h6,h7,h8⟩:=ai g5
    obtain ⟨x02,g9,b3⟩:=ae b3
    obtain ⟨h10,h11,h12⟩:=ai g9
    obtain ⟨h13,b3⟩|⟨h13,b3⟩:=af b3
    ·cases b3
     simp(config:=cS)only[go_sem,eqT h4,h6,h7,h8,h10,h11,h12,eqT h13]
     refine ar gb3 ?_
     simp(config:=cS)only[go_sem]
    ·cases b3
     obtain rfl:=(al gb3).symm
     try dsimp only at h
     cases h
     simp(config:=cS)only[go_sem,eqT h4,h6,h7,h8,h10,h11,h12,eqF h13]
   ·cases b3
    obtain rfl:=(al gb3).symm
    try dsimp only at h
    cases h
    simp(config:=cS)only[go_sem,eqF h4]
 ·cases h
  simp(config:=cS)only[go_sem,eqF h1]
attribute [go_sem] Tryz.ntmps131 Tryz.results131
theorem AP {a b:GNode}{res:Bool}(h:jz a b=some res):ap Tryz.prog 131 [.agg (GNode.encS a),.agg (GNode.encS b)] [] (.lit (.bool res)) []:=by
 refine aj (ra:=[]) (md:=mdT) hT (hi:=hi00) Tryz.func131 rfl rfl (by decide +kernel) (by simp) ?_
 unfold jz at h
 obtain ⟨h1,h⟩|⟨h1,h⟩:=af h
 ·obtain ⟨r01,g2,h⟩:=ae h
  simp(config:=cS)only[go_sem,eqT h1]
  refine ag (lE g2) ?_
  obtain ⟨h3,h⟩|⟨h3,h⟩:=af h
  ·obtain ⟨h4,h⟩|⟨h4,h⟩:=af h
   ·cases h
    simp(config:=cS)only[go_sem,eZt h3,eqT h4]
   ·cases h
    simp(config:=cS)only[go_sem,eZt h3,eqF h4]
  ·cases h
   simp(config:=cS)only[go_sem,eZf h3]
 ·cases h
  simp(config:=cS)only[go_sem,eqF h1]
def mV (a b:List GNode)(i:Int):St:=⟨[(0,.sl (ab GNode.encS a)),(1,.sl (ab GNode.encS b)),(5,.lit (.int .i64 i))],[],2⟩
attribute [go_sem] mV
@[go_sem] def hi61_6:DT:=.i2 0 (.i2 1 (.i2 2 (.i2 3 (.i2 4 (.i2 5 (.i2 6 (.i2 7 (.i2 8 (.i2 9 .nil)))))))))
def hi61:Hint where
 acts:=fun _=>[]
 draws:=fun
  | 6=>⟨hi61_6,[[],[],[0,1],[0,1,2],[],[],[4,5],[4,5,6],.range 8,.range 9],.range 10⟩
  | _=>⟨.nil,[],[]⟩
theorem Np (i:Nat):hi61.acts i=[]:=rfl
theorem Nq (i:Nat):hi61.views i=none:=rfl
attribute [go_sem] Np Nq Tryz.ntmps61 Tryz.results61
@[go_sem] theorem OB:(hi61.draws 6).order=hi61_6:=rfl
theorem yY {a b:List GNode}{res:Bool}(h:iT a b=some res):ap Tryz.prog 61 [.sl (ab GNode.encS a),.sl (ab GNode.encS b)] [] (.lit (.bool res)) []:=by
 refine aj (ra:=[]) (md:=mdT) hT (hi:=hi61) Tryz.func61 rfl rfl (by decide +kernel) (by simp) ?_
 unfold iT at h
 obtain ⟨h1,h⟩|⟨h1,h⟩:=af h
 ·obtain ⟨q04,l2,h⟩:=ae h
  simp(config:=cS)only[go_sem,eqT h1]
  refine ao (m1:=.mk) (m2:=.mk) [.nf [0,1,5] []] (mV a b) l2 ?_ ?_
  ·simp(config:=cS)only[go_sem]
  ·intro nb3 i_1 bb3 b3 gb3
   unfold fS at b3
   try dsimp only at b3
   obtain ⟨h4,b3⟩|⟨h4,b3⟩:=af b3
   ·obtain ⟨x01,g5,b3⟩:=ae b3
    obtain ⟨h6,h7,h8⟩:=ai g5
    obtain ⟨x02,g9,b3⟩:=ae b3
    obtain ⟨h10,h11,h12⟩:=ai g9
    obtain ⟨r03,g13,b3⟩:=ae b3
    simp(config:=cS)only[go_sem,eqT h4,h6,h7,h8,h10,h11,h12]
    refine ag (AP g13) ?_
    obtain ⟨h14,b3⟩|⟨h14,b3⟩:=af b3
    ·cases b3
     simp(config:=cS)only[go_sem,eZt h14]
     refine ar gb3 ?_
     simp(config:=cS)only[go_sem]
    ·cases b3
     obtain rfl:=(al gb3).symm
     try dsimp only at h
     cases h
     simp(config:=cS)only[go_sem,eZf h14]
   ·cases b3
    obtain rfl:=(al gb3).symm
    try dsimp only at h
    cases h
    simp(config:=cS)only[go_sem,eqF h4]
 ·cases h
  simp(config:=cS)only[go_sem,eqF h1]
attribute [go_sem] Tryz.ntmps132 Tryz.results132
theorem CB {a b:GTie}{res:Bool}(h:mY a b=some res):ap Tryz.prog 132 [.agg (GTie.enc a),.agg (GTie.enc b)] [] (.lit (.bool res)) []:=by
 refine aj (ra:=[]) (md:=mdT) hT (hi:=hi00) Tryz.func132 rfl rfl (by decide +kernel) (by simp) ?_
 unfold mY at h
 obtain ⟨h1,h⟩|⟨h1,h⟩:=af h
 ·obtain ⟨h2,h⟩|⟨h2,h⟩:=af h
  ·obtain ⟨h3,h⟩|⟨h3,h⟩:=af h
   ·obtain ⟨h4,h⟩|⟨h4,h⟩:=af h
    ·obtain ⟨h5,h⟩|⟨h5,h⟩:=af h
     ·cases h
      simp(config:=cS)only[go_sem,eqT h1,eqT h2,eqT h3,eqT h4,eqT h5]
     ·cases h
      simp(config:=cS)only[go_sem,eqT h1,eqT h2,eqT h3,eqT h4,eqF h5]
    ·cases h
     simp(config:=cS)only[go_sem,eqT h1,eqT h2,eqT h3,eqF h4]
   ·cases h
    simp(config:=cS)only[go_sem,eqT h1,eqT h2,eqF h3]
  ·cases h
   simp(config:=cS)only[go_sem,eqT h1,eqF h2]
 ·cases h
  simp(config:=cS)only[go_sem,eqF h1]
def nw (a b:List GTie)(i:Int):St:=⟨[(0,.sl (ab GTie.enc a)),(1,.sl (ab GTie.enc b)),(5,.lit (.int .i64 i))],[],2⟩
attribute [go_sem] nw
@[go_sem] def hi62_6:DT:=.i2 0 (.i2 1 (.i2 2 (.i2 3 (.i2 4 (.i2 5 (.i2 6 (.i2 7 (.i2 8 (.i2 9 .nil)))))))))
def hi62:Hint where
 acts:=fun _=>[]
 draws:=fun
  | 6=>⟨hi62_6,[[],[],[0,1],[0,1,2],[],[],[4,5],[4,5,6],.range 8,.range 9],.range 10⟩
  | _=>⟨.nil,[],[]⟩
theorem Nr (i:Nat):hi62.acts i=[]:=rfl
theorem Ns (i:Nat):hi62.views i=none:=rfl
attribute [go_sem] Nr Ns Tryz.ntmps62 Tryz.results62
@[go_sem] theorem OC:(hi62.draws 6).order=hi62_6:=rfl
theorem AQ {a b:List GTie}{res:Bool}(h:jA a b=some res):ap Tryz.prog 62 [.sl (ab GTie.enc a),.sl (ab GTie.enc b)] [] (.lit (.bool res)) []:=by
 refine aj (ra:=[]) (md:=mdT) hT (hi:=hi62) Tryz.func62 rfl rfl (by decide +kernel) (by simp) ?_
 unfold jA at h
 obtain ⟨h1,h⟩|⟨h1,h⟩:=af h
 ·obtain ⟨q04,l2,h⟩:=ae h
  simp(config:=cS)only[go_sem,eqT h1]
  refine ao (m1:=.mk) (m2:=.mk) [.nf [0,1,5] []] (nw a b) l2 ?_ ?_
  ·simp(config:=cS)only[go_sem]
  ·intro nb3 i_1 bb3 b3 gb3
   unfold gL at b3
   try dsimp only at b3
   obtain ⟨h4,b3⟩|⟨h4,b3⟩:=af b3
   ·obtain ⟨x01,g5,b3⟩:=ae b3
    obtain ⟨h6,h7,h8⟩:=ai g5
    obtain ⟨x02,g9,b3⟩:=ae b3
    obtain ⟨h10,h11,h12⟩:=ai g9
    obtain ⟨r03,g13,b3⟩:=ae b3
    simp(config:=cS)only[go_sem,eqT h4,h6,h7,h8,h10,h11,h12]
    refine ag (CB g13) ?_
    obtain ⟨h14,b3⟩|⟨h14,b3⟩:=af b3
    ·cases b3
     simp(config:=cS)only[go_sem,eZt h14]
     refine ar gb3 ?_
     simp(config:=cS)only[go_sem]
    ·cases b3
     obtain rfl:=(al gb3).symm
     try dsimp only at h
     cases h
     simp(config:=cS)only[go_sem,eZf h14]
   ·cases b3
    obtain rfl:=(al gb3).symm
    try dsimp only at h
    cases h
    simp(config:=cS)only[go_sem,eqF h4]
 ·cases h
  simp(config:=cS)only[go_sem,eqF h1]
attribute [go_sem] Tryz.ntmps16 Tryz.results16
theorem AR {a b:GShow}{res:Bool}(h:jB a b=some res):ap Tryz.prog 16 [.agg (GShow.encS a),.agg (GShow.encS b)] [] (.lit (.bool res)) []:=by
 refine aj (ra:=[]) (md:=mdT) hT (hi:=hi00) Tryz.func16 rfl rfl (by decide +kernel) (by simp) ?_
 unfold jB at h
 obtain ⟨r01,g1,h⟩:=ae h
 simp(config:=cS)only[go_sem]
 refine ag (yY g1) ?_
 obtain ⟨h2,h⟩|⟨h2,h⟩:=af h
 ·obtain ⟨r02,g3,h⟩:=ae h
  simp(config:=cS)only[go_sem,eZt h2]
  refine ag (AQ g3) ?_
  obtain ⟨h4,h⟩|⟨h4,h⟩:=af h
  ·obtain ⟨h5,h⟩|⟨h5,h⟩:=af h
   ·cases h
    simp(config:=cS)only[go_sem,eZt h4,eqT h5]
   ·cases h
    simp(config:=cS)only[go_sem,eZt h4,eqF h5]
  ·cases h
   simp(config:=cS)only[go_sem,eZf h4]
 ·cases h
  simp(config:=cS)only[go_sem,eZf h2]
attribute [go_sem] Tryz.ntmps85 Tryz.results85
attribute [go_sem] Tryz.ntmps77 Tryz.results77
theorem yZ {a b:GEntry}{res:Bool}(h:iU a b=some res):ap Tryz.prog 77 [.agg (GEntry.encS a),.agg (GEntry.encS b)] [] (.lit (.bool res)) []:=by
 refine aj (ra:=[]) (md:=mdT) hT (hi:=hi00) Tryz.func77 rfl rfl (by decide +kernel) (by simp) ?_
 unfold iU at h
 obtain ⟨h1,h⟩|⟨h1,h⟩:=af h
 ·obtain ⟨r01,g2,h⟩:=ae h
  simp(config:=cS)only[go_sem,eqT h1]
  refine ag (lE g2) ?_
  obtain ⟨h3,h⟩|⟨h3,h⟩:=af h
  ·obtain ⟨r02,g4,h⟩:=ae h
   simp(config:=cS)only[go_sem,eZt h3]
   refine ag (lE g4) ?_
   obtain ⟨h5,h⟩|⟨h5,h⟩:=af h
   ·obtain ⟨r03,g6,h⟩:=ae h
    simp(config:=cS)only[go_sem,eZt h5]
    refine ag (lE g6) ?_
    obtain ⟨h7,h⟩|⟨h7,h⟩:=af h
    ·cases h
     simp(config:=cS)only[go_sem,eZt h7]
    ·cases h
     simp(config:=cS)only[go_sem,eZf h7]
   ·cases h
    simp(config:=cS)only[go_sem,eZf h5]
  ·cases h
   simp(config:=cS)only[go_sem,eZf h3]
 ·cases h
  simp(config:=cS)only[go_sem,eqF h1]
def mg (a b:List GEntry)(i:Int):St:=⟨[(0,.sl (ab GEntry.encS a)),(1,.sl (ab GEntry.encS b)),(5,.lit (.int .i64 i))],[],2⟩
attribute [go_sem] mg
@[go_sem] def hi26_6:DT:=.i2 0 (.i2 1 (.i2 2 (.i2 3 (.i2 4 (.i2 5 (.i2 6 (.i2 7 (.i2 8 (.i2 9 .nil)))))))))
def hi26:Hint where
 acts:=fun _=>[]
 draws:=fun
  | 6=>⟨hi26_6,[[],[],[0,1],[0,1,2],[],[],[4,5],[4,5,6],.range 8,.range 9],.range 10⟩
  | _=>⟨.nil,[],[]⟩
theorem Nt (i:Nat):hi26.acts i=[]:=rfl
theorem Nu (i:Nat):hi26.views i=none:=rfl
attribute [go_sem] Nt Nu Tryz.ntmps26 Tryz.results26
@[go_sem] theorem OD:(hi26.draws 6).order=hi26_6:=rfl
theorem xJ {a b:List GEntry}{res:Bool}(h:ic a b=some res):ap Tryz.prog 26 [.sl (ab GEntry.encS a),.sl (ab GEntry.encS b)] [] (.lit (.bool res)) []:=by
 refine aj (ra:=[]) (md:=mdT) hT (hi:=hi26) Tryz.func26 rfl rfl (by decide +kernel) (by simp) ?_
 unfold ic at h
 obtain ⟨h1,h⟩|⟨h1,h⟩:=af h
 ·obtain ⟨q04,l2,h⟩:=ae h
  simp(config:=cS)only[go_sem,eqT h1]
  refine ao (m1:=.mk) (m2:=.mk) [.nf [0,1,5] []] (mg a b) l2 ?_ ?_
  ·simp(config:=cS)only[go_sem]
  ·intro nb3 i_1 bb3 b3 gb3
   unfold fo at b3
   try dsimp only at b3
   obtain ⟨h4,b3⟩|⟨h4,b3⟩:=af b3
   ·obtain ⟨x01,g5,b3⟩:=ae b3
    obtain ⟨h6,h7,h8⟩:=ai g5
    obtain ⟨x02,g9,b3⟩:=ae b3
    obtain ⟨h10,h11,h12⟩:=ai g9
    obtain ⟨r03,g13,b3⟩:=ae b3
    simp(config:=cS)only[go_sem,eqT h4,h6,h7,h8,h10,h11,h12]
    refine ag (yZ g13) ?_
    obtain ⟨h14,b3⟩|⟨h14,b3⟩:=af b3
    ·cases b3
     simp(config:=cS)only[go_sem,eZt h14]
     refine ar gb3 ?_
     simp(config:=cS)only[go_sem]
    ·cases b3
     obtain rfl:=(al gb3).symm
     try dsimp only at h
     cases h
     simp(config:=cS)only[go_sem,eZf h14]
   ·cases b3
    obtain rfl:=(al gb3).symm
    try dsimp only at h
    cases h
    simp(config:=cS)only[go_sem,eqF h4]
 ·cases h
  simp(config:=cS)only[go_sem,eqF h1]
attribute [go_sem] Tryz.ntmps33 Tryz.results33
def mh  : (Int × ByteArray)→St
 | (k,a)=>⟨[(0,.lit (.int .i64 k)),(3,.lit (.string a))],[],2⟩
attribute [go_sem] mh
attribute [go_sem] Tryz.ntmps81 Tryz.results81
theorem mW {k:Int}{res:ByteArray}(h:cd k=some res):ap Tryz.prog 81 [.lit (.int .i64 k)] [] (.lit (.string res)) []:=by
 refine aj (ra:=[]) (md:=mdT) hT (hi:=hi00) Tryz.func81 rfl rfl (by decide +kernel) (by simp) ?_
 unfold cd at h
 obtain ⟨h1,h⟩|⟨h1,h⟩:=af h
 ·cases h
  simp(config:=cS)only[go_sem,eqT h1]
 ·obtain ⟨q01,l2,h⟩:=ae h
  simp(config:=cS)only[go_sem,eqF h1]
  refine ao (m1:=.mk) (m2:=.mk) [.nf [0,3] []] (mh) l2 ?_ ?_
  ·simp(config:=cS)only[go_sem]
  ·intro nb3 sb3 bb3 b3 gb3
   obtain ⟨k_1,out_1⟩:=sb3
   unfold dr at b3
   try dsimp only at b3
   obtain ⟨h4,b3⟩|⟨h4,b3⟩:=af b3
   ·obtain ⟨h5,b3⟩:=ak b3
    cases b3
    simp(config:=cS)only[go_sem,eqT h4,eqT h5]
    refine ar gb3 ?_
    simp(config:=cS)only[go_sem]
   ·cases b3
    obtain rfl:=(al gb3).symm
    try dsimp only at h
    obtain ⟨h7,h⟩:=ak h
    cases h
    simp(config:=cS)only[go_sem,eqF h4,eqT h7]
def mi (b:Bool)  : (Int × Int × (List Int))→St
 | (k,i,a)=>⟨[(0,.ref 10000 0 0 a.length),(1,.lit (.int .i64 k)),(5,.lit (.int .i64 i))],[(10000,0,.row b (ab eI a))],2⟩
attribute [go_sem] mi
attribute [go_sem] Tryz.ntmps80 Tryz.results80
theorem jP {a:List Int}{k:Int}{zb0:Bool}{res:Int × (List Int)}(h:cI a k=some res):ap Tryz.prog 80 [.ref 10000 0 0 a.length,.lit (.int .i64 k)] [(10000,0,.row zb0 (ab eI a))] (.lit (.int .i64 res.1)) [(10000,0,.row zb0 (ab eI res.2))]:=by
 refine aj (ra:=[]) (md:=mdT) hT (hi:=hi00) Tryz.func80 rfl rfl (by decide +kernel) (by simp) ?_
 unfold cI at h
 obtain ⟨q02,l1,h⟩:=ae h
 simp(config:=cS)only[go_sem]
 refine ao (m1:=.mk) (m2:=.mk) [.nf [0,1,5] [10000]] (mi zb0) l1 ?_ ?_
 ·simp(config:=cS)only[go_sem]
 ·intro nb2 sb2 bb2 b2 gb2
  obtain ⟨k_1,i_1,a_1⟩:=sb2
  unfold fq at b2
  try dsimp only at b2
  obtain ⟨h3,b2⟩|⟨h3,b2⟩:=af b2
  ·obtain ⟨x01,g4,b2⟩:=ae b2
   obtain ⟨h5,h6,h7⟩:=ai g4
   cases b2
   simp(config:=cS)only[go_sem,eqT h3,h5,h6,h7]
   refine ar gb2 ?_
   simp(config:=cS)only[go_sem]
  ·cases b2
   obtain rfl:=(al gb2).symm
   try dsimp only at h
   cases h
   simp(config:=cS)only[go_sem,eqF h3]
def ll (b:Bool)  : (Int × Int × (List GNode))→St
 | (k,i,a)=>⟨[(0,.ref 10000 0 0 a.length),(1,.lit (.int .i64 k)),(5,.lit (.int .i64 i))],[(10000,0,.row b (ab GNode.encO a))],2⟩
attribute [go_sem] ll
def hi78:Hint where
 acts:=fun _=>[]
 views:=fun
  | 6=>some (4,1)
  | _=>none
 draws:=fun
  | _=>⟨.nil,[],[]⟩
theorem Nv (i:Nat):hi78.acts i=[]:=rfl
@[go_sem] theorem OE:hi78.views 0=none:=rfl
@[go_sem] theorem OF:hi78.views 1=none:=rfl
@[go_sem] theorem OG:hi78.views 2=none:=rfl
@[go_sem] theorem OH:hi78.views 4=none:=rfl
@[go_sem] theorem OI:hi78.views 5=none:=rfl
@[go_sem] theorem OJ:hi78.views 6=some (4,1):=rfl
@[go_sem] theorem OK:hi78.views 7=none:=rfl
@[go_sem] theorem OL:hi78.views 8=none:=rfl
@[go_sem] theorem OM:hi78.views 3=none:=rfl
@[go_sem] theorem ON:hi78.views 9=none:=rfl
attribute [go_sem] Nv Tryz.ntmps78 Tryz.results78
theorem vN {a:List GNode}{k:Int}{zb0:Bool}{res:Int × (List GNode)}(h:gM a k=some res):ap Tryz.prog 78 [.ref 10000 0 0 a.length,.lit (.int .i64 k)] [(10000,0,.row zb0 (ab GNode.encO a))] (.lit (.int .i64 res.1)) [(10000,0,.row zb0 (ab GNode.encO res.2))]:=by
 refine aj (ra:=[]) (md:=mdT) hT (hi:=hi78) Tryz.func78 rfl rfl (by decide +kernel) (by simp) ?_
 unfold gM at h
 obtain ⟨q06,l1,h⟩:=ae h
 simp(config:=cS)only[go_sem]
 refine ao (m1:=.mk) (m2:=.mk) [.nf [0,1,5] [10000]] (ll zb0) l1 ?_ ?_
 ·simp(config:=cS)only[go_sem]
 ·intro nb2 sb2 bb2 b2 gb2
  obtain ⟨k_1,i_1,a_1⟩:=sb2
  unfold eC at b2
  try dsimp only at b2
  obtain ⟨h3,b2⟩|⟨h3,b2⟩:=af b2
  ·obtain ⟨r01,g4,b2⟩:=ae b2
   simp(config:=cS)only[go_sem,eqT h3]
   refine ag (mW g4) ?_
   obtain ⟨x02,g5,b2⟩:=ae b2
   obtain ⟨h6,h7,h8⟩:=ai g5
   obtain ⟨x03,g9,b2⟩:=ae b2
   obtain ⟨h10,h11,h12⟩:=ai g9
   obtain ⟨r04,g13,b2⟩:=ae b2
   obtain ⟨h14,b2⟩:=ak b2
   simp(config:=cS)only[go_sem,eqT h3,h6,h7,h8,h10,h11,h12]
   refine rr h14 (by simp only [go_sem]) (jP g13) ?_
   obtain ⟨x05,g15,b2⟩:=ae b2
   obtain ⟨h16,h17,h18⟩:=ai g15
   cases b2
   simp(config:=cS)only[go_sem,eqT h3,h6,h7,h8,h10,h11,h12,h16,h17,h18]
   refine ar gb2 ?_
   simp(config:=cS)only[go_sem,eqT h3,h6,h7,h8,h10,h11,h12,h16,h17,h18]
  ·cases b2
   obtain rfl:=(al gb2).symm
   try dsimp only at h
   cases h
   simp(config:=cS)only[go_sem,eqF h3]
def mj (b:Bool)  : (Int × Int × (List GTie))→St
 | (k,i,a)=>⟨[(0,.ref 10000 0 0 a.length),(1,.lit (.int .i64 k)),(5,.lit (.int .i64 i))],[(10000,0,.row b (ab GTie.enc a))],2⟩
attribute [go_sem] mj
attribute [go_sem] Tryz.ntmps79 Tryz.results79
theorem xK {a:List GTie}{k:Int}{zb0:Bool}{res:Int × (List GTie)}(h:ie a k=some res):ap Tryz.prog 79 [.ref 10000 0 0 a.length,.lit (.int .i64 k)] [(10000,0,.row zb0 (ab GTie.enc a))] (.lit (.int .i64 res.1)) [(10000,0,.row zb0 (ab GTie.enc res.2))]:=by
 refine aj (ra:=[]) (md:=mdT) hT (hi:=hi00) Tryz.func79 rfl rfl (by decide +kernel) (by simp) ?_
 unfold ie at h
 obtain ⟨q06,l1,h⟩:=ae h
 simp(config:=cS)only[go_sem]
 refine ao (m1:=.mk) (m2:=.mk) [.nf [0,1,5] [10000]] (mj zb0) l1 ?_ ?_
 ·simp(config:=cS)only[go_sem]
 ·intro nb2 sb2 bb2 b2 gb2
  obtain ⟨k_1,i_1,a_1⟩:=sb2
  unfold fv at b2
  try dsimp only at b2
  obtain ⟨h3,b2⟩|⟨h3,b2⟩:=af b2
  ·obtain ⟨x01,g4,b2⟩:=ae b2
   obtain ⟨h5,h6,h7⟩:=ai g4
   obtain ⟨x02,g8,b2⟩:=ae b2
   obtain ⟨h9,h10,h11⟩:=ai g8
   obtain ⟨x03,g12,b2⟩:=ae b2
   obtain ⟨h13,h14,h15⟩:=ai g12
   obtain ⟨x04,g16,b2⟩:=ae b2
   obtain ⟨h17,h18,h19⟩:=ai g16
   obtain ⟨x05,g20,b2⟩:=ae b2
   obtain ⟨h21,h22,h23⟩:=ai g20
   cases b2
   simp(config:=cS)only[go_sem,eqT h3,h5,h6,h7,h9,h10,h11,h13,h14,h15,h17,h18,h19,h21,h22,h23]
   refine ar gb2 ?_
   simp(config:=cS)only[go_sem]
  ·cases b2
   obtain rfl:=(al gb2).symm
   try dsimp only at h
   cases h
   simp(config:=cS)only[go_sem,eqF h3]
attribute [go_sem] Tryz.ntmps27 Tryz.results27
theorem xL {a:GShow}{k:Int}{zb0 zb1:Bool}{res:Int × (List GNode) × (List GTie)}(h:ig a k=some res):ap Tryz.prog 27 [.agg [.ref 10000 0 0 a.nodes.length,.ref 10001 0 0 a.ties.length,.lit (.int .i64 a.horizon)],.lit (.int .i64 k)] [(10000,0,.row zb0 (ab GNode.encO a.nodes)),(10001,0,.row zb1 (ab GTie.enc a.ties))] (.lit (.int .i64 res.1)) [(10000,0,.row zb0 (ab GNode.encO res.2.1)),(10001,0,.row zb1 (ab GTie.enc res.2.2))]:=by
 refine aj (ra:=[]) (md:=mdT) hT (hi:=hi00) Tryz.func27 rfl rfl (by decide +kernel) (by simp) ?_
 unfold ig at h
 obtain ⟨r01,g1,h⟩:=ae h
 simp(config:=cS)only[go_sem]
 refine ag (vN g1) ?_
 obtain ⟨r02,g2,h⟩:=ae h
 simp(config:=cS)only[go_sem]
 refine ag (xK g2) ?_
 cases h
 simp(config:=cS)only[go_sem]
attribute [go_sem] Tryz.ntmps86 Tryz.results86
def kI (b:Bool)  : (Int × Int × (List GEntry))→St
 | (k,i,a)=>⟨[(0,.ref 10000 0 0 a.length),(1,.lit (.int .i64 k)),(5,.lit (.int .i64 i))],[(10000,0,.row b (ab GEntry.encO a))],2⟩
attribute [go_sem] kI
def hi28:Hint where
 acts:=fun _=>[]
 views:=fun
  | 6=>some (4,1)
  | 7=>some (4,1)
  | 8=>some (4,1)
  | _=>none
 draws:=fun
  | _=>⟨.nil,[],[]⟩
theorem Nw (i:Nat):hi28.acts i=[]:=rfl
@[go_sem] theorem OO:hi28.views 0=none:=rfl
@[go_sem] theorem OP:hi28.views 1=none:=rfl
@[go_sem] theorem OQ:hi28.views 2=none:=rfl
@[go_sem] theorem OR:hi28.views 4=none:=rfl
@[go_sem] theorem OT:hi28.views 5=none:=rfl
@[go_sem] theorem OU:hi28.views 6=some (4,1):=rfl
@[go_sem] theorem OV:hi28.views 7=some (4,1):=rfl
@[go_sem] theorem OW:hi28.views 8=some (4,1):=rfl
@[go_sem] theorem OX:hi28.views 3=none:=rfl
@[go_sem] theorem OY:hi28.views 9=none:=rfl
attribute [go_sem] Nw Tryz.ntmps28 Tryz.results28
theorem ut {a:List GEntry}{k:Int}{zb0:Bool}{res:Int × (List GEntry)}(h:fT a k=some res):ap Tryz.prog 28 [.ref 10000 0 0 a.length,.lit (.int .i64 k)] [(10000,0,.row zb0 (ab GEntry.encO a))] (.lit (.int .i64 res.1)) [(10000,0,.row zb0 (ab GEntry.encO res.2))]:=by
 refine aj (ra:=[]) (md:=mdT) hT (hi:=hi28) Tryz.func28 rfl rfl (by decide +kernel) (by simp) ?_
 unfold fT at h
 obtain ⟨q08,l1,h⟩:=ae h
 simp(config:=cS)only[go_sem]
 refine ao (m1:=.mk) (m2:=.mk) [.nf [0,1,5] [10000]] (kI zb0) l1 ?_ ?_
 ·simp(config:=cS)only[go_sem]
 ·intro nb2 sb2 bb2 b2 gb2
  obtain ⟨k_1,i_1,a_1⟩:=sb2
  unfold dH at b2
  try dsimp only at b2
  obtain ⟨h3,b2⟩|⟨h3,b2⟩:=af b2
  ·obtain ⟨x01,g4,b2⟩:=ae b2
   obtain ⟨h5,h6,h7⟩:=ai g4
   obtain ⟨x02,g8,b2⟩:=ae b2
   obtain ⟨h9,h10,h11⟩:=ai g8
   obtain ⟨r03,g12,b2⟩:=ae b2
   obtain ⟨h13,b2⟩:=ak b2
   simp(config:=cS)only[go_sem,eqT h3,h5,h6,h7,h9,h10,h11]
   refine rr h13 (by simp only [go_sem]) (jP g12) ?_
   obtain ⟨x04,g14,b2⟩:=ae b2
   obtain ⟨h15,h16,h17⟩:=ai g14
   obtain ⟨r05,g18,b2⟩:=ae b2
   obtain ⟨h19,b2⟩:=ak b2
   simp(config:=cS)only[go_sem,eqT h3,h5,h6,h7,h9,h10,h11,h15,h16,h17]
   refine rr h19 (by simp only [go_sem]) (jP g18) ?_
   obtain ⟨x06,g20,b2⟩:=ae b2
   obtain ⟨h21,h22,h23⟩:=ai g20
   obtain ⟨r07,g24,b2⟩:=ae b2
   obtain ⟨h25,b2⟩:=ak b2
   simp(config:=cS)only[go_sem,eqT h3,h5,h6,h7,h9,h10,h11,h15,h16,h17,h21,h22,h23]
   refine rr h25 (by simp only [go_sem]) (jP g24) ?_
   cases b2
   simp(config:=cS)only[go_sem,eqT h3,h5,h6,h7,h9,h10,h11,h15,h16,h17,h21,h22,h23]
   refine ar gb2 ?_
   simp(config:=cS)only[go_sem,eqT h3,h5,h6,h7,h9,h10,h11,h15,h16,h17,h21,h22,h23]
  ·cases b2
   obtain rfl:=(al gb2).symm
   try dsimp only at h
   cases h
   simp(config:=cS)only[go_sem,eqF h3]
attribute [go_sem] Tryz.ntmps34 Tryz.results34
def qS (a:List Int):(Int × Int)→St
 | (k,i)=>⟨[(0,.sl (ab eI a)),(1,.lit (.int .i64 k)),(5,.lit (.int .i64 i))],[],2⟩
attribute [go_sem] qS
attribute [go_sem] Tryz.ntmps158 Tryz.results158
def ql (a:List GNode):(Int × Int)→St
 | (k,i)=>⟨[(0,.sl (ab GNode.encS a)),(1,.lit (.int .i64 k)),(5,.lit (.int .i64 i))],[],2⟩
attribute [go_sem] ql
@[go_sem] def hi156_4:DT:=.i2 0 (.i2 1 (.i1 2 (.i1 3 (.i1 4 (.i2 5 (.i0 6 [2,3,4] (.i2 7 .nil)))))))
def Fw:Hint where
 acts:=fun _=>[]
 draws:=fun
  | 4=>⟨hi156_4,[[],[],[0,1],[0,1,2],[0,1,2,3],[],[5],.range 7],.range 8⟩
  | _=>⟨.nil,[],[]⟩
theorem Mn (i:Nat):Fw.acts i=[]:=rfl
theorem Mo (i:Nat):Fw.views i=none:=rfl
attribute [go_sem] Mn Mo Tryz.ntmps156 Tryz.results156
@[go_sem] theorem Om:(Fw.draws 4).order=hi156_4:=rfl
def qT (a:List GTie):(Int × Int)→St
 | (k,i)=>⟨[(0,.sl (ab GTie.enc a)),(1,.lit (.int .i64 k)),(5,.lit (.int .i64 i))],[],2⟩
attribute [go_sem] qT
attribute [go_sem] Tryz.ntmps157 Tryz.results157
attribute [go_sem] Tryz.ntmps87 Tryz.results87
attribute [go_sem] Tryz.ntmps88 Tryz.results88
def pM (a:List GEntry):(Int × Int)→St
 | (k,i)=>⟨[(0,.sl (ab GEntry.encS a)),(1,.lit (.int .i64 k)),(5,.lit (.int .i64 i))],[],2⟩
attribute [go_sem] pM
attribute [go_sem] Tryz.ntmps89 Tryz.results89
attribute [go_sem] Tryz.ntmps35 Tryz.results35
@[go_sem] def hi6_12:DT:=.i1 0 (.i2 1 (.i0 2 [0] (.i2 3 (.i2 4 .nil))))
def hi6:Hint where
 acts:=fun _=>[]
 draws:=fun
  | 12=>⟨hi6_12,[[],[],[1],[0,1,2],[0,1,2,3]],.range 5⟩
  | _=>⟨.nil,[],[]⟩
theorem hi6a (i:Nat):hi6.acts i=[]:=rfl
theorem hi6v (i:Nat):hi6.views i=none:=rfl
attribute [go_sem] hi6a hi6v Tryz.ntmps6 Tryz.results6
@[go_sem] theorem OZ:(hi6.draws 12).order=hi6_12:=rfl
attribute [go_sem] Tryz.ntmps151 Tryz.results151
theorem pw {n:Int}{res:ByteArray}(h:eR n=some res):ap Tryz.prog 151 [.lit (.int .i64 n)] [] (.lit (.string res)) []:=by
 refine aj (ra:=[]) (md:=mdT) hT (hi:=hi00) Tryz.func151 rfl rfl (by decide +kernel) (by simp) ?_
 unfold eR at h
 obtain ⟨r01,g1,h⟩:=ae h
 simp(config:=cS)only[go_sem]
 refine ag (zW g1) ?_
 cases h
 simp(config:=cS)only[go_sem]
attribute [go_sem] Tryz.ntmps164 Tryz.results164
theorem DO {l:List ByteArray}{by_ res:ByteArray}(h:ln l by_=some res):ap Tryz.prog 164 [.sl (ab eS l),.lit (.string by_)] [] (.lit (.string res)) []:=by
 refine aj (ra:=[]) (md:=mdT) hT (hi:=hi00) Tryz.func164 rfl rfl (by decide +kernel) (by simp) ?_
 unfold ln at h
 obtain ⟨r01,g1,h⟩:=ae h
 simp(config:=cS)only[go_sem]
 refine ag (zX g1) ?_
 cases h
 simp(config:=cS)only[go_sem]
attribute [go_sem] Tryz.ntmps243 Tryz.results243
def qU (b:List Int)(c:Int):(Int × (List ByteArray))→St
 | (d,a)=>⟨[(3,.ref 255 1 0 a.length),(6,.sl (ab eI b)),(7,.lit (.int .i64 c)),(8,.lit (.int .i64 d))],[(255,1,.row true (ab eS a))],2⟩
attribute [go_sem] qU
attribute [go_sem] Tryz.ntmps165 Tryz.results165
@[go_sem] def hi96_1:DT:=.i2 0 (.i2 1 (.i1 3 (.i1 4 (.i1 6 (.i1 7 (.i1 9 (.i1 10 (.i0 2 [3,4,6,7,9,10] (.i0 5 [6,7,9,10] (.i0 8 [9,10] (.i2 11 (.i2 12 (.i2 13 (.i2 14 .nil))))))))))))))
def hi96:Hint where
 acts:=fun _=>[]
 draws:=fun
  | 1=>⟨hi96_1,[[],[0],[0,1],[],[3],.range 5,[],[6],.range 8,[],[9],.range 11,.range 12,.range 13,.range 14],.range 15⟩
  | _=>⟨.nil,[],[]⟩
theorem Nx (i:Nat):hi96.acts i=[]:=rfl
theorem Ny (i:Nat):hi96.views i=none:=rfl
attribute [go_sem] Nx Ny Tryz.ntmps96 Tryz.results96
@[go_sem] theorem Pa:(hi96.draws 1).order=hi96_1:=rfl
end Go.Proofs.Qb
