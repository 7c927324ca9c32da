/- Functions. -/
import Derived.Test.YtpkcmjnlnbddbaaGreatDoorXfFK0
set_option linter.all false
set_option maxRecDepth 100000
set_option maxHeartbeats 4000000
namespace Go.Proofs.Qf
open Go
def jR (c:List GTie)(a:Nat)(b:List AV)(d e:Int):St:=⟨[(0,.sl (ab GTie.enc c)),(1,.fn a b),(7,.lit (.int .i64 d)),(8,.lit (.int .i64 e))],[],2⟩
attribute [go_sem] jR
attribute [go_sem] Tryz.ntmps276 Tryz.results276
theorem mv {v0:List GTie}{v1:GTie→Option Bool}{f_v1:Nat}{k_v1:List AV}(hp_v1:∀ y0 r,v1 y0=some r→aj Tryz.prog f_v1 ([.agg (GTie.enc y0)]++k_v1) [] (.lit (.bool r)) [])(hc_v1:KC k_v1)(hm_v1:∀ a,mdT f_v1 a=⟨[],false⟩)(hk_v1:spf f_v1=false){res:Int}(h:cL v0 v1=some res):aj Tryz.prog 276 [.sl (ab GTie.enc v0),.fn f_v1 k_v1] [] (.lit (.int .i64 res)) []:=by
 refine co (hi:=hi00) Tryz.func276 rfl rfl ?_
 unfold cL at h
 obtain ⟨q03,l1,h⟩:=af h
 simp(config:=cS)only[go_sem,hc_v1.1,hc_v1.2,hm_v1,hk_v1]
 refine ak (m1:=.mk) (m2:=.mk) [.nf [0,1,7,8] []] (jR v0 f_v1 k_v1 ((v0.length:Nat):Int)) l1 ?_ ?_
 ·simp(config:=cS)only[go_sem,hc_v1.1,hc_v1.2,hm_v1,hk_v1]
 ·intro nb2 v8_1 bb2 b2 gb2
  unfold bZ at b2
  try dsimp only at b2
  obtain ⟨h3,b2⟩|⟨h3,b2⟩:=bq b2
  ·obtain ⟨x01,g4,b2⟩:=af b2
   obtain ⟨h5,h6,h7⟩:=dK g4
   obtain ⟨r02,g8,b2⟩:=af b2
   simp(config:=cS)only[go_sem,hc_v1.1,hc_v1.2,hm_v1,hk_v1,eqT h3,h5,h6,h7]
   refine ah (hp_v1 _ _ g8) ?_
   obtain ⟨h9,b2⟩|⟨h9,b2⟩:=bq b2
   ·cases b2
    obtain rfl:=(bc gb2).symm
    try dsimp only at h
    cases h
    simp(config:=cS)only[go_sem,hc_v1.1,hc_v1.2,hm_v1,hk_v1,eqT h3,h5,h6,h7,eZt h9]
   ·cases b2
    simp(config:=cS)only[go_sem,hc_v1.1,hc_v1.2,hm_v1,hk_v1,eqT h3,h5,h6,h7,eZf h9]
    refine io gb2 ?_
    simp(config:=cS)only[go_sem,hc_v1.1,hc_v1.2,hm_v1,hk_v1,eqT h3,h5,h6,h7,eZf h9]
  ·cases b2
   obtain rfl:=(bc gb2).symm
   try dsimp only at h
   cases h
   simp(config:=cS)only[go_sem,hc_v1.1,hc_v1.2,hm_v1,hk_v1,eqF h3]
attribute [go_sem] Tryz.ntmps225 Tryz.results225
theorem ls {v0:List GTie}{v1:GTie→Option Bool}{f_v1:Nat}{k_v1:List AV}(hp_v1:∀ y0 r,v1 y0=some r→aj Tryz.prog f_v1 ([.agg (GTie.enc y0)]++k_v1) [] (.lit (.bool r)) [])(hc_v1:KC k_v1)(hm_v1:∀ a,mdT f_v1 a=⟨[],false⟩)(hk_v1:spf f_v1=false){res:Bool}(h:bJ v0 v1=some res):aj Tryz.prog 225 [.sl (ab GTie.enc v0),.fn f_v1 k_v1] [] (.lit (.bool res)) []:=by
 refine co (hi:=hi00) Tryz.func225 rfl rfl ?_
 unfold bJ at h
 obtain ⟨r01,g1,h⟩:=af h
 simp(config:=cS)only[go_sem,hc_v1.1,hc_v1.2,hm_v1,hk_v1]
 refine ah (mv hp_v1 hc_v1 hm_v1 hk_v1 g1) ?_
 cases h
 simp(config:=cS)only[go_sem,hc_v1.1,hc_v1.2,hm_v1,hk_v1]
attribute [go_sem] Tryz.ntmps226 Tryz.results226
instance k226 {u:GTie} {t:GTie}:Ctr (gL u t) (fun (res:Bool)=>aj Tryz.prog 226 [.agg (GTie.enc u),.loc [.lit (.int .i64 t.from_),.lit (.int .i64 t.to),.lit (.int .i64 t.low),.lit (.int .i64 t.high),.lit (.bool t.free)]] [] (.lit (.bool res)) []):=⟨by
 intro res h0
 refine co (hi:=hi00) Tryz.func226 rfl rfl ?_
 unfold gL at h0
 exact run⟩
def nY (a:List GTie)(d:Int)(b:List GNode)(c e:Int):St:=⟨[(1,.ptr 64 1 0 0),(6,.sl (ab GTie.enc a)),(7,.lit (.int .i64 d)),(8,.lit (.int .i64 e))],[(64,1,.var [.sl (ab GNode.encS b),.sl (ab GTie.enc a),.lit (.int .i64 c)])],2⟩
attribute [go_sem] nY
@[go_sem] def hi143_7:DT:=.r2 0 36 .nil
def EH:Hint where
 acts:=fun _=>[]
 draws:=fun
  | 7=>⟨hi143_7,[[],[0],[0,1],[0,1,2],[0,1,2,3],.range 5,.range 6,.range 7,.range 8,.range 9,.range 10,.range 9,[0,1,2,3,4,5,6,7,8,11],.range 13,.range 14,.range 15,.range 16,.range 17,.range 18,.range 19,.range 20,.range 19,[0,1,2,3,4,5,6,7,8,9,10,11,12,13,14,15,16,17,18,21],.range 23,.range 24,.range 25,.range 19,[0,1,2,3,4,5,6,7,8,9,10,11,12,13,14,15,16,17,18,26],.range 19,[0,1,2,3,4,5,6,7,8,9,10,11,12,13,14,15,16,17,18,28],[0,1,2,3,4,5,6,7,8,9,10,11,12,13,14,15,16,17,18,26,27,28,29],[0,1,2,3,4,5,6,7,8,9,10,11,12,13,14,15,16,17,18,26,27,28,29,30],[0,1,2,3,4,5,6,7,8,9,10,11,12,13,14,15,16,17,18,26,27,28,29,30,31],.range 33,.range 34,.range 35],.range 36⟩
  | _=>⟨.nil,[],[]⟩
theorem Rc (i:Nat):EH.acts i=[]:=rfl
theorem Rd (i:Nat):EH.views i=none:=rfl
attribute [go_sem] Rc Rd Tryz.ntmps143 Tryz.results143
@[go_sem] theorem VE:(EH.draws 7).order=hi143_7:=rfl
instance k143 {s:GShow}:Ctr (jW s) (fun (res:Bool)=>aj Tryz.prog 143 [.agg (GShow.encS s)] [] (.lit (.bool res)) []):=⟨by
 intro res h0
 refine co (hi:=EH) Tryz.func143 rfl rfl ?_
 unfold jW at h0
 obtain ⟨q10,l0,h0⟩:=af h0
 simp(config:=cS)only[go_sem, *]
 refine ak (m1:=.mk) (m2:=.mk) [.nf [1,6,7,8] [64]] (nY s.ties ((s.ties.length:Nat):Int) s.nodes s.horizon) l0 ?_ ?_
 ·simp(config:=cS)only[go_sem, *]
 ·have k0:=h0
  clear h0 l0
  intro _ v8_1 _ h0 gb0
  unfold ff at h0
  try dsimp only at h0
  obtain ⟨_,h0⟩|⟨_,h0⟩:=itP h0
  ·obtain ⟨x01,_,_,_,h0⟩:=gtI h0
   obtain ⟨r02,g0,h0⟩:=af h0
   simp(config:=cS)only[go_sem, *]
   have g0:=ctr g0
   refine ah g0 ?_
   obtain ⟨_,h0⟩|⟨_,h0⟩:=itB h0
   ·obtain ⟨r03,g0,h0⟩:=af h0
    simp(config:=cS)only[go_sem, *]
    have g0:=ctr g0
    refine ah g0 ?_
    obtain ⟨_,h0⟩|⟨_,h0⟩:=itB h0
    ·obtain ⟨_,h0⟩|⟨_,h0⟩:=itP h0
     ·exact run
     ·obtain ⟨r04,g0,h0⟩:=af h0
      simp(config:=cS)only[go_sem, *]
      have g0:=ctr g0
      refine ah g0 ?_
      obtain ⟨_,h0⟩|⟨_,h0⟩:=itB h0
      ·obtain ⟨r05,g0,h0⟩:=af h0
       simp(config:=cS)only[go_sem, *]
       have g0:=ctr g0
       refine ah g0 ?_
       obtain ⟨_,h0⟩|⟨_,h0⟩:=itB h0
       ·obtain ⟨_,h0⟩|⟨_,h0⟩:=itP h0
        ·exact run
        ·obtain ⟨_,h0⟩|⟨_,h0⟩:=itB h0
         ·obtain ⟨_,h0⟩|⟨_,h0⟩:=itP h0
          ·exact run
          ·obtain ⟨_,h0⟩|⟨_,h0⟩:=itP h0
           ·exact run
           ·obtain ⟨x06,_,_,_,h0⟩:=gtI h0
            obtain ⟨_,h0⟩|⟨_,h0⟩:=itP h0
            ·obtain ⟨x07,_,_,_,h0⟩:=gtI h0
             obtain ⟨r08,g0,h0⟩:=af h0
             simp(config:=cS)only[go_sem, *]
             have g0:=ctr g0
             refine ah g0 ?_
             obtain ⟨_,h0⟩|⟨_,h0⟩:=itB h0
             ·obtain ⟨_,h0⟩:=ckP h0
              obtain ⟨_,h0⟩:=ckP h0
              obtain ⟨r09,g0,h0⟩:=af h0
              simp(config:=cS)only[go_sem, *]
              refine ah (ls (by exact fun _ _ hr=>by have q:=ctr hr;exact q) (by refine ⟨fun _=>?_,fun _=>?_⟩ <;> simp only [go_sem]) (fun _=>rfl) rfl g0) ?_
              exact run
             ·exact run
            ·exact run
         ·exact run
       ·exact run
      ·exact run
    ·exact run
   ·exact run
  ·exact run⟩
def jS (c:List Int)(a:Nat)(b:List AV)(d e:Int):St:=⟨[(0,.sl (ab eI c)),(1,.fn a b),(7,.lit (.int .i64 d)),(8,.lit (.int .i64 e))],[],2⟩
attribute [go_sem] jS
attribute [go_sem] Tryz.ntmps227 Tryz.results227
theorem mw {v0:List Int}{v1:Int→Option Bool}{f_v1:Nat}{k_v1:List AV}(hp_v1:∀ y0 r,v1 y0=some r→aj Tryz.prog f_v1 ([.lit (.int .i64 y0)]++k_v1) [] (.lit (.bool r)) [])(hc_v1:KC k_v1)(hm_v1:∀ a,mdT f_v1 a=⟨[],false⟩)(hk_v1:spf f_v1=false){res:Int}(h:cM v0 v1=some res):aj Tryz.prog 227 [.sl (ab eI v0),.fn f_v1 k_v1] [] (.lit (.int .i64 res)) []:=by
 refine co (hi:=hi00) Tryz.func227 rfl rfl ?_
 unfold cM at h
 obtain ⟨q03,l1,h⟩:=af h
 simp(config:=cS)only[go_sem,hc_v1.1,hc_v1.2,hm_v1,hk_v1]
 refine ak (m1:=.mk) (m2:=.mk) [.nf [0,1,7,8] []] (jS v0 f_v1 k_v1 ((v0.length:Nat):Int)) l1 ?_ ?_
 ·simp(config:=cS)only[go_sem,hc_v1.1,hc_v1.2,hm_v1,hk_v1]
 ·intro nb2 v8_1 bb2 b2 gb2
  unfold ca at b2
  try dsimp only at b2
  obtain ⟨h3,b2⟩|⟨h3,b2⟩:=bq b2
  ·obtain ⟨x01,g4,b2⟩:=af b2
   obtain ⟨h5,h6,h7⟩:=dK g4
   obtain ⟨r02,g8,b2⟩:=af b2
   simp(config:=cS)only[go_sem,hc_v1.1,hc_v1.2,hm_v1,hk_v1,eqT h3,h5,h6,h7]
   refine ah (hp_v1 _ _ g8) ?_
   obtain ⟨h9,b2⟩|⟨h9,b2⟩:=bq b2
   ·cases b2
    obtain rfl:=(bc gb2).symm
    try dsimp only at h
    cases h
    simp(config:=cS)only[go_sem,hc_v1.1,hc_v1.2,hm_v1,hk_v1,eqT h3,h5,h6,h7,eZt h9]
   ·cases b2
    simp(config:=cS)only[go_sem,hc_v1.1,hc_v1.2,hm_v1,hk_v1,eqT h3,h5,h6,h7,eZf h9]
    refine io gb2 ?_
    simp(config:=cS)only[go_sem,hc_v1.1,hc_v1.2,hm_v1,hk_v1,eqT h3,h5,h6,h7,eZf h9]
  ·cases b2
   obtain rfl:=(bc gb2).symm
   try dsimp only at h
   cases h
   simp(config:=cS)only[go_sem,hc_v1.1,hc_v1.2,hm_v1,hk_v1,eqF h3]
attribute [go_sem] Tryz.ntmps144 Tryz.results144
theorem bY {v0:List Int}{v1:Int→Option Bool}{f_v1:Nat}{k_v1:List AV}(hp_v1:∀ y0 r,v1 y0=some r→aj Tryz.prog f_v1 ([.lit (.int .i64 y0)]++k_v1) [] (.lit (.bool r)) [])(hc_v1:KC k_v1)(hm_v1:∀ a,mdT f_v1 a=⟨[],false⟩)(hk_v1:spf f_v1=false){res:Bool}(h:aS v0 v1=some res):aj Tryz.prog 144 [.sl (ab eI v0),.fn f_v1 k_v1] [] (.lit (.bool res)) []:=by
 refine co (hi:=hi00) Tryz.func144 rfl rfl ?_
 unfold aS at h
 obtain ⟨r01,g1,h⟩:=af h
 simp(config:=cS)only[go_sem,hc_v1.1,hc_v1.2,hm_v1,hk_v1]
 refine ah (mw hp_v1 hc_v1 hm_v1 hk_v1 g1) ?_
 cases h
 simp(config:=cS)only[go_sem,hc_v1.1,hc_v1.2,hm_v1,hk_v1]
def jB (c:List GNode)(a:Nat)(b:List AV)(d e:Int):St:=⟨[(0,.sl (ab GNode.encS c)),(1,.fn a b),(7,.lit (.int .i64 d)),(8,.lit (.int .i64 e))],[],2⟩
attribute [go_sem] jB
attribute [go_sem] Tryz.ntmps230 Tryz.results230
theorem ru {v0:List GNode}{v1:GNode→Option Bool}{f_v1:Nat}{k_v1:List AV}(hp_v1:∀ y0 r,v1 y0=some r→aj Tryz.prog f_v1 ([.agg (GNode.encS y0)]++k_v1) [] (.lit (.bool r)) [])(hc_v1:KC k_v1)(hm_v1:∀ a,mdT f_v1 a=⟨[],false⟩)(hk_v1:spf f_v1=false){res:Int}(h:dC v0 v1=some res):aj Tryz.prog 230 [.sl (ab GNode.encS v0),.fn f_v1 k_v1] [] (.lit (.int .i64 res)) []:=by
 refine co (hi:=hi00) Tryz.func230 rfl rfl ?_
 unfold dC at h
 obtain ⟨q03,l1,h⟩:=af h
 simp(config:=cS)only[go_sem,hc_v1.1,hc_v1.2,hm_v1,hk_v1]
 refine ak (m1:=.mk) (m2:=.mk) [.nf [0,1,7,8] []] (jB v0 f_v1 k_v1 ((v0.length:Nat):Int)) l1 ?_ ?_
 ·simp(config:=cS)only[go_sem,hc_v1.1,hc_v1.2,hm_v1,hk_v1]
 ·intro nb2 v8_1 bb2 b2 gb2
  unfold bP at b2
  try dsimp only at b2
  obtain ⟨h3,b2⟩|⟨h3,b2⟩:=bq b2
  ·obtain ⟨x01,g4,b2⟩:=af b2
   obtain ⟨h5,h6,h7⟩:=dK g4
   obtain ⟨r02,g8,b2⟩:=af b2
   simp(config:=cS)only[go_sem,hc_v1.1,hc_v1.2,hm_v1,hk_v1,eqT h3,h5,h6,h7]
   refine ah (hp_v1 _ _ g8) ?_
   obtain ⟨h9,b2⟩|⟨h9,b2⟩:=bq b2
   ·cases b2
    obtain rfl:=(bc gb2).symm
    try dsimp only at h
    cases h
    simp(config:=cS)only[go_sem,hc_v1.1,hc_v1.2,hm_v1,hk_v1,eqT h3,h5,h6,h7,eZt h9]
   ·cases b2
    simp(config:=cS)only[go_sem,hc_v1.1,hc_v1.2,hm_v1,hk_v1,eqT h3,h5,h6,h7,eZf h9]
    refine io gb2 ?_
    simp(config:=cS)only[go_sem,hc_v1.1,hc_v1.2,hm_v1,hk_v1,eqT h3,h5,h6,h7,eZf h9]
  ·cases b2
   obtain rfl:=(bc gb2).symm
   try dsimp only at h
   cases h
   simp(config:=cS)only[go_sem,hc_v1.1,hc_v1.2,hm_v1,hk_v1,eqF h3]
attribute [go_sem] Tryz.ntmps231 Tryz.results231
instance k231 {n:GNode} {p:Int}:Ctr (jH n p) (fun (res:Bool)=>aj Tryz.prog 231 [.agg (GNode.encS n),.loc [.lit (.int .i64 p)]] [] (.lit (.bool res)) []):=⟨by
 intro res h0
 refine co (hi:=hi00) Tryz.func231 rfl rfl ?_
 unfold jH at h0
 exact run⟩
attribute [go_sem] Tryz.ntmps148 Tryz.results148
instance k148 {s:GShow} {p:Int}:Ctr (cN s p) (fun (res:Int)=>aj Tryz.prog 148 [.agg (GShow.encS s),.lit (.int .i64 p)] [] (.lit (.int .i64 res)) []):=⟨by
 intro res h0
 refine co (hi:=hi00) Tryz.func148 rfl rfl ?_
 unfold cN at h0
 obtain ⟨r01,g0,h0⟩:=af h0
 simp(config:=cS)only[go_sem, *]
 refine ah (ru (by exact fun _ _ hr=>by have q:=ctr hr;exact q) (by refine ⟨fun _=>?_,fun _=>?_⟩ <;> simp only [go_sem]) (fun _=>rfl) rfl g0) ?_
 exact run⟩
def lD (a:List Int)(b c d:Int):St:=⟨[(0,.sl (ab eI a)),(1,.lit (.int .i64 b)),(7,.lit (.int .i64 c)),(8,.lit (.int .i64 d))],[],2⟩
attribute [go_sem] lD
attribute [go_sem] Tryz.ntmps169 Tryz.results169
instance k169 {v0:List Int} {v1:Int}:Ctr (dg v0 v1) (fun (res:Int)=>aj Tryz.prog 169 [.sl (ab eI v0),.lit (.int .i64 v1)] [] (.lit (.int .i64 res)) []):=⟨by
 intro res h0
 refine co (hi:=hi00) Tryz.func169 rfl rfl ?_
 unfold dg at h0
 obtain ⟨q02,l0,h0⟩:=af h0
 simp(config:=cS)only[go_sem, *]
 refine ak (m1:=.mk) (m2:=.mk) [.nf [0,1,7,8] []] (lD v0 v1 ((v0.length:Nat):Int)) l0 ?_ ?_
 ·simp(config:=cS)only[go_sem, *]
 ·have k0:=h0
  clear h0 l0
  intro _ v8_1 _ h0 gb0
  unfold da at h0
  try dsimp only at h0
  exact run⟩
attribute [go_sem] Tryz.ntmps228 Tryz.results228
instance k228 {v0:List Int} {v1:Int}:Ctr (cm v0 v1) (fun (res:Bool)=>aj Tryz.prog 228 [.sl (ab eI v0),.lit (.int .i64 v1)] [] (.lit (.bool res)) []):=⟨by
 intro res h0
 refine co (hi:=hi00) Tryz.func228 rfl rfl ?_
 unfold cm at h0
 exact run⟩
attribute [go_sem] Tryz.ntmps277 Tryz.results277
instance k277 {v0:Int} {a:List Int}:Ctr (fZ v0 a) (fun (res:Bool)=>aj Tryz.prog 277 [.lit (.int .i64 v0),.loc [.sl (ab eI a)]] [] (.lit (.bool res)) []):=⟨by
 intro res h0
 refine co (hi:=hi00) Tryz.func277 rfl rfl ?_
 unfold fZ at h0
 exact run⟩
attribute [go_sem] Tryz.ntmps229 Tryz.results229
instance k229 {a:List Int} {b:List Int}:Ctr (fA a b) (fun (res:Bool)=>aj Tryz.prog 229 [.sl (ab eI a),.sl (ab eI b)] [] (.lit (.bool res)) []):=⟨by
 intro res h0
 refine co (hi:=hi00) Tryz.func229 rfl rfl ?_
 unfold fA at h0
 obtain ⟨r01,g0,h0⟩:=af h0
 simp(config:=cS)only[go_sem, *]
 have g0:=ctr g0
 refine ah g0 ?_
 obtain ⟨_,h0⟩|⟨_,h0⟩:=itB h0
 ·obtain ⟨r02,g0,h0⟩:=af h0
  simp(config:=cS)only[go_sem, *]
  have g0:=ctr g0
  refine ah g0 ?_
  obtain ⟨_,h0⟩|⟨_,h0⟩:=itB h0
  ·obtain ⟨r03,g0,h0⟩:=af h0
   simp(config:=cS)only[go_sem, *]
   refine ah (bY (by exact fun _ _ hr=>by have q:=ctr hr;exact q) (by refine ⟨fun _=>?_,fun _=>?_⟩ <;> simp only [go_sem]) (fun _=>rfl) rfl g0) ?_
   exact run
  ·exact run
 ·exact run⟩
@[go_sem] def hi146_1:DT:=.i1 0 (.i2 1 (.i0 2 [0] (.i2 3 (.i2 4 .nil))))
def EI:Hint where
 acts:=fun _=>[]
 draws:=fun
  | 1=>⟨hi146_1,[[],[],[1],[0,1,2],[0,1,2,3]],.range 5⟩
  | _=>⟨.nil,[],[]⟩
theorem Re (i:Nat):EI.acts i=[]:=rfl
theorem Rf (i:Nat):EI.views i=none:=rfl
attribute [go_sem] Re Rf Tryz.ntmps146 Tryz.results146
@[go_sem] theorem VG:(EI.draws 1).order=hi146_1:=rfl
instance k146 {s:GShow} {label:List Int} {v2:Int}:Ctr (iA s label v2) (fun (res:Bool)=>aj Tryz.prog 146 [.agg (GShow.encS s),.sl (ab eI label),.lit (.int .i64 v2)] [] (.lit (.bool res)) []):=⟨by
 intro res h0
 refine co (hi:=EI) Tryz.func146 rfl rfl ?_
 unfold iA at h0
 exact run⟩
attribute [go_sem] Tryz.ntmps145 Tryz.results145
instance k145 {v0:Int} {s:GShow} {n:GNode}:Ctr (iB v0 s n) (fun (res:Bool)=>aj Tryz.prog 145 [.lit (.int .i64 v0),.loc [.sl (ab GNode.encS s.nodes),.sl (ab GTie.enc s.ties),.lit (.int .i64 s.horizon)],.loc [.lit (.string n.name),.sl (ab eI n.label),.lit (.int .i64 n.watch)]] [] (.lit (.bool res)) []):=⟨by
 intro res h0
 refine co (hi:=hi00) Tryz.func145 rfl rfl ?_
 unfold iB at h0
 exact run⟩
def oT (a:List GNode)(b:Int)(c:List GTie)(d e:Int):St:=⟨[(1,.ptr 64 1 0 0),(24,.sl (ab GNode.encS a)),(25,.lit (.int .i64 b)),(26,.lit (.int .i64 e))],[(64,1,.var [.sl (ab GNode.encS a),.sl (ab GTie.enc c),.lit (.int .i64 d)])],2⟩
attribute [go_sem] oT
attribute [go_sem] Tryz.ntmps70 Tryz.results70
instance k70 {s:GShow}:Ctr (dv s) (fun (res:Bool)=>aj Tryz.prog 70 [.agg (GShow.encS s)] [] (.lit (.bool res)) []):=⟨by
 intro res h0
 refine co (hi:=hi00) Tryz.func70 rfl rfl ?_
 unfold dv at h0
 obtain ⟨r01,g0,h0⟩:=af h0
 simp(config:=cS)only[go_sem, *]
 have g0:=ctr g0
 refine ah g0 ?_
 obtain ⟨_,h0⟩|⟨_,h0⟩:=itB h0
 ·obtain ⟨r02,g0,h0⟩:=af h0
  simp(config:=cS)only[go_sem, *]
  have g0:=ctr g0
  refine ah g0 ?_
  obtain ⟨_,h0⟩|⟨_,h0⟩:=itB h0
  ·obtain ⟨_,h0⟩|⟨_,h0⟩:=itP h0
   ·exact run
   ·obtain ⟨_,h0⟩|⟨_,h0⟩:=itP h0
    ·exact run
    ·obtain ⟨q05,l0,h0⟩:=af h0
     simp(config:=cS)only[go_sem, *]
     refine ak (m1:=.mk) (m2:=.mk) [.nf [1,24,25,26] [64]] (oT s.nodes ((s.nodes.length:Nat):Int) s.ties s.horizon) l0 ?_ ?_
     ·simp(config:=cS)only[go_sem, *]
     ·have k0:=h0
      clear h0 l0
      intro _ v26_1 _ h0 gb0
      unfold fT at h0
      try dsimp only at h0
      obtain ⟨_,h0⟩|⟨_,h0⟩:=itP h0
      ·obtain ⟨x03,_,_,_,h0⟩:=gtI h0
       obtain ⟨r04,g0,h0⟩:=af h0
       simp(config:=cS)only[go_sem, *]
       refine ah (bY (by exact fun _ _ hr=>by have q:=ctr hr;exact q) (by refine ⟨fun _=>?_,fun _=>?_⟩ <;> simp only [go_sem]) (fun _=>rfl) rfl g0) ?_
       exact run
      ·exact run
  ·exact run
 ·exact run⟩
def nm (b:List GTie)(c:Int):(Int × (List Int))→St
 | (d,a)=>⟨[(3,.ref 255 1 0 a.length),(7,.sl (ab GTie.enc b)),(8,.lit (.int .i64 c)),(9,.lit (.int .i64 d))],[(255,1,.row true (ab eI a))],2⟩
attribute [go_sem] nm
attribute [go_sem] Tryz.ntmps147 Tryz.results147
instance k147 {s:GShow}:Ctr (eO s) (fun (res:List Int)=>aj Tryz.prog 147 [.agg (GShow.encS s)] [] (.ref 20000 1 0 res.length) [(20000,1,.row true (ab eI res))]):=⟨by
 intro res h0
 refine aE (ra:=[.home 2]) (md:=mdT) hT (hi:=hi00) Tryz.func147 rfl rfl (by decide +kernel) (by simp) ?_
 unfold eO at h0
 obtain ⟨q02,l0,h0⟩:=af h0
 simp(config:=cS)only[go_sem, *]
 refine ak (m1:=.mk) (m2:=.mk) [.home 3,.nf [3,7,8,9] [255]] (nm s.ties ((s.ties.length:Nat):Int)) l0 ?_ ?_
 ·simp(config:=cS)only[go_sem, *]
 ·have k0:=h0
  clear h0 l0
  intro _ s0 _ h0 gb0
  obtain ⟨v9_1,out_1⟩:=s0
  unfold gp at h0
  try dsimp only at h0
  exact run⟩
def qt (b:Int)(c:List GNode)(d:List GTie)(e:Int)(a:List Int):(Int × Int)→St
 | (n,f)=>⟨[(1,.ptr 64 1 0 0),(3,.lit (.int .i64 n)),(11,.ref 704 1 0 a.length),(12,.lit (.int .i64 b)),(13,.lit (.int .i64 f))],[(64,1,.var [.sl (ab GNode.encS c),.sl (ab GTie.enc d),.lit (.int .i64 e)]),(704,1,.row true (ab eI a))],2⟩
attribute [go_sem] qt
def qu (a:List GNode)(b:List GTie)(c:Int):(Int × Int)→St
 | (n,p)=>⟨[(1,.ptr 64 1 0 0),(3,.lit (.int .i64 n)),(6,.lit (.int .i64 p))],[(64,1,.var [.sl (ab GNode.encS a),.sl (ab GTie.enc b),.lit (.int .i64 c)])],2⟩
attribute [go_sem] qu
@[go_sem] def hi71_7:DT:=.r2 0 17 .nil
def hi71:Hint where
 acts:=fun _=>[]
 draws:=fun
  | 7=>⟨hi71_7,[[],[],[1],[],[1,2,3],[1,2,3,4],[1,2,3,4,5],[],[7],[],[7,8,9],[7,8,9,10],[7,8,9,10,11],[1,2,3,4,5,6,7,8,9,10,11,12],[1,2,3,4,5,6,7,8,9,10,11,12,13],.range 15,.range 16],.range 17⟩
  | _=>⟨.nil,[],[]⟩
theorem Tk (i:Nat):hi71.acts i=[]:=rfl
theorem Tl (i:Nat):hi71.views i=none:=rfl
attribute [go_sem] Tk Tl Tryz.ntmps71 Tryz.results71
@[go_sem] theorem WB:(hi71.draws 7).order=hi71_7:=rfl
def sM (c:Int)(d:List GNode)(e:List GTie)(f:Int)(b:List Int):(Int × Int × (List Int))→St
 | (n,g,a)=>⟨[(1,.lit (.int .i64 n)),(2,.ptr 128 1 0 0),(4,.ptr 256 1 0 0),(5,.ptr 320 1 0 0),(12,.ref 768 1 0 b.length),(13,.lit (.int .i64 c)),(14,.lit (.int .i64 g))],[(128,1,.var [.sl (ab GNode.encS d),.sl (ab GTie.enc e),.lit (.int .i64 f)]),(256,1,.var [.lit (.slice none 0 0),.lit (.slice none 0 0)]),(320,1,.var [.ref 100020480 1 0 a.length,.lit (.slice none 0 0)]),(100020480,1,.row true (ab eI a)),(768,1,.row true (ab eI b))],2⟩
attribute [go_sem] sM
def sN (c:List GNode)(d:List GTie)(e:Int)(a:List Int):(Int × Int × (List Int))→St
 | (n,p,b)=>⟨[(1,.lit (.int .i64 n)),(2,.ptr 128 1 0 0),(4,.ptr 256 1 0 0),(5,.ptr 320 1 0 0),(9,.lit (.int .i64 p))],[(128,1,.var [.sl (ab GNode.encS c),.sl (ab GTie.enc d),.lit (.int .i64 e)]),(256,1,.var [.lit (.slice none 0 0),.lit (.slice none 0 0)]),(320,1,.var [.ref 100020480 1 0 a.length,.ref 100020481 1 0 b.length]),(100020480,1,.row true (ab eI a)),(100020481,1,.row true (ab eI b))],2⟩
attribute [go_sem] sN
@[go_sem] def hi72_6:DT:=.i1 0 (.i1 1 (.r2 2 10 (.i0 12 [0,1] (.r2 13 3 .nil))))
@[go_sem] def hi72_5:DT:=.r2 0 15 .nil
def hi72:Hint where
 acts:=fun _=>[]
 draws:=fun
  | 5=>⟨hi72_5,[[],[0],[],[0,1,2],[0,1,2,3],.range 5,[],[6],[],[6,7,8],[6,7,8,9],[6,7,8,9,10],.range 12,.range 13,.range 14],.range 15⟩
  | 6=>⟨hi72_6,[[],[0],[],[2],[],[2,3,4],[2,3,4,5],[2,3,4,5,6],[],[],[8,9],[2,3,4,5,6,7,8,9,10],[2,3,4,5,6,7,8,9,10,11],.range 13,.range 14,.range 15],.range 16⟩
  | _=>⟨.nil,[],[]⟩
theorem Tm (i:Nat):hi72.acts i=[]:=rfl
theorem Tn (i:Nat):hi72.views i=none:=rfl
attribute [go_sem] Tm Tn Tryz.ntmps72 Tryz.results72
@[go_sem] theorem WC:(hi72.draws 5).order=hi72_5:=rfl
@[go_sem] theorem WD:(hi72.draws 6).order=hi72_6:=rfl
attribute [go_sem] Tryz.ntmps158 Tryz.results158
instance k158 {v0:List GTie}:Ctr (gw v0) (fun (res:List GTie)=>aj Tryz.prog 158 [.sl (ab GTie.enc v0)] [] (.ref 20000 1 0 res.length) [(20000,1,.row true (ab GTie.enc res))]):=⟨by
 intro res h0
 refine aE (ra:=[.home 2]) (md:=mdT) hT (hi:=hi00) Tryz.func158 rfl rfl (by decide +kernel) (by simp) ?_
 unfold gw at h0
 obtain ⟨_,h0,_⟩|⟨a0,h0⟩:=Dk h0
 ·exact run
 ·have:=fun (e:_→List AV)=>Ak (e:=e) a0
  exact run⟩
attribute [go_sem] Tryz.ntmps60 Tryz.results60
instance k60 {v0:List Int}:Ctr (aU v0) (fun (res:List Int)=>aj Tryz.prog 60 [.sl (ab eI v0)] [] (.ref 20000 1 0 res.length) [(20000,1,.row true (ab eI res))]):=⟨by
 intro res h0
 refine aE (ra:=[.home 2]) (md:=mdT) hT (hi:=hi00) Tryz.func60 rfl rfl (by decide +kernel) (by simp) ?_
 unfold aU at h0
 obtain ⟨_,h0,_⟩|⟨a0,h0⟩:=Dk h0
 ·exact run
 ·have:=fun (e:_→List AV)=>Ak (e:=e) a0
  exact run⟩
def jT (d:List GNode)(e c:Int)(b:List GTie):(Int × (List GNode))→St
 | (f,a)=>⟨[(2,.ptr 128 1 0 0),(3,.ptr 192 1 0 0),(13,.sl (ab GNode.encS d)),(14,.lit (.int .i64 e)),(15,.lit (.int .i64 f))],[(128,1,.var [.lit (.slice none 0 0),.lit (.slice none 0 0),.lit (.int .i64 0)]),(192,1,.var [.ref 100012288 1 0 a.length,.ref 512 1 0 b.length,.lit (.int .i64 c)]),(100012288,1,.row true (ab GNode.encO a)),(512,1,.row true (ab GTie.enc b))],2⟩
attribute [go_sem] jT
@[go_sem] def hi81_1:DT:=.i1 0 (.i1 1 (.i1 3 (.i1 4 (.fork (.i0 2 [3,4] (.i2 5 (.i0 6 [0,1,3,4] (.i2 7 .nil)))) (.i0 6 [0,1,3,4] (.i0 2 [3,4] (.i2 5 (.i2 7 .nil))))))))
def hi81:Hint where
 acts:=fun _=>[]
 draws:=fun
  | 1=>⟨hi81_1,[[],[0],[0,1],[],[3],.range 5,[],.range 7],.range 8⟩
  | _=>⟨.nil,[],[]⟩
theorem To (i:Nat):hi81.acts i=[]:=rfl
theorem Tp (i:Nat):hi81.views i=none:=rfl
attribute [go_sem] To Tp Tryz.ntmps81 Tryz.results81
@[go_sem] theorem WE:(hi81.draws 1).order=hi81_1:=rfl
instance k81 {s:GShow}:Ctr (gG s) (fun (res:GShow)=>aj Tryz.prog 81 [.agg (GShow.encS s)] [] (.agg [.ref 20000 1 0 res.nodes.length,.ref 20001 1 0 res.ties.length,.lit (.int .i64 res.horizon)]) [(20000,1,.row true (ab GNode.encO res.nodes)),(20001,1,.row true (ab GTie.enc res.ties))]):=⟨by
 intro res h0
 refine aE (ra:=[.homeCell 128 0,.homeCell 128 1]) (md:=mdT) hT (hi:=hi81) Tryz.func81 rfl rfl (by decide +kernel) (by simp) ?_
 unfold gG at h0
 try simp(config:=cS)only[go_sem, *]
 refine dR ?_ ?_
 ·obtain ⟨r01,g0,h0⟩:=af h0
  simp(config:=cS)only[go_sem, *]
  have g0:=ctr g0
  refine ah g0 ?_
  obtain ⟨q04,l0,h0⟩:=af h0
  simp(config:=cS)only[go_sem, *]
  refine ak (m1:=.mk) (m2:=.mk) [.homeCell 192 0,.nf [2,3,13,14,15] [128,192,100012288,512]] (jT s.nodes ((s.nodes.length:Nat):Int) s.horizon r01) l0 ?_ ?_
  ·simp(config:=cS)only[go_sem, *]
  ·have k0:=h0
   clear h0 l0
   intro _ s0 _ h0 gb0
   obtain ⟨v15_1,h100012288_1⟩:=s0
   unfold ez at h0
   try dsimp only at h0
   exact run
 ·obtain ⟨r05,g0,h0⟩:=af h0
  simp(config:=cS)only[go_sem, *]
  have g0:=ctr g0
  refine ah g0 ?_
  obtain ⟨q08,l0,h0⟩:=af h0
  simp(config:=cS)only[go_sem, *]
  refine ak (m1:=.mk) (m2:=.mk) [.homeCell 192 0,.nf [2,3,13,14,15] [128,192,100012288,512]] (jT s.nodes ((s.nodes.length:Nat):Int) s.horizon r05) l0 ?_ ?_
  ·simp(config:=cS)only[go_sem, *]
  ·have k0:=h0
   clear h0 l0
   intro _ s0 _ h0 gb0
   obtain ⟨v15_2,h100012288_2⟩:=s0
   unfold ez at h0
   try dsimp only at h0
   exact run⟩
attribute [go_sem] Tryz.ntmps263 Tryz.results263
instance k263 {v0:Int} {y:Int}:Ctr (qY v0 y) (fun (res:Int × Int)=>aj Tryz.prog 263 [.lit (.int .u64 v0),.lit (.int .u64 y)] [] (.tup [.lit (.int .u64 res.1),.lit (.int .u64 res.2)]) []):=⟨by
 intro res h0
 refine co (hi:=hi00) Tryz.func263 rfl rfl ?_
 unfold qY at h0
 exact run⟩
attribute [go_sem] Tryz.ntmps192 Tryz.results192
instance k192 {v0:Int} {y:Int}:Ctr (ga v0 y) (fun (res:Int × Int)=>aj Tryz.prog 192 [.lit (.int .u64 v0),.lit (.int .u64 y)] [] (.tup [.lit (.int .u64 res.1),.lit (.int .u64 res.2)]) []):=⟨by
 intro res h0
 refine co (hi:=hi00) Tryz.func192 rfl rfl ?_
 unfold ga at h0
 exact run⟩
def lu  : (Int × (List Int))→St
 | (b,a)=>⟨[(7,.ref 1920 1 0 a.length),(8,.lit (.int .i64 b))],[(1920,1,.row true (ab eI a))],2⟩
attribute [go_sem] lu
@[go_sem] def hi98_9:DT:=.r2 0 10 .nil
def hi98:Hint where
 acts:=fun _=>[]
 draws:=fun
  | 9=>⟨hi98_9,[[],[],[],[1,2],[],[],[4,5],[1,2,3,4,5,6],.range 8,.range 9],.range 10⟩
  | _=>⟨.nil,[],[]⟩
theorem Tq (i:Nat):hi98.acts i=[]:=rfl
theorem Tr (i:Nat):hi98.views i=none:=rfl
attribute [go_sem] Tq Tr Tryz.ntmps98 Tryz.results98
@[go_sem] theorem WF:(hi98.draws 9).order=hi98_9:=rfl
instance k98 {v0:List Int} {v1:Int}:Ctr (aK v0 v1) (fun (res:List Int)=>aj Tryz.prog 98 [.sl (ab eI v0),.lit (.int .i64 v1)] [] (.ref 20000 1 0 res.length) [(20000,1,.row true (ab eI res))]):=⟨by
 intro res h0
 refine aE (ra:=[.home 4]) (md:=mdT) hT (hi:=hi98) Tryz.func98 rfl rfl (by decide +kernel) (by simp) ?_
 unfold aK at h0
 obtain ⟨_,h0⟩|⟨_,h0⟩:=itP h0
 ·exact run
 ·obtain ⟨r01,g0,h0⟩:=af h0
  simp(config:=cS)only[go_sem, *]
  have g0:=ctr g0
  refine ah g0 ?_
  obtain ⟨_,h0⟩|⟨_,h0⟩:=itP h0
  ·exact run
  ·obtain ⟨_,h0⟩|⟨_,h0⟩:=itP h0
   ·exact run
   ·obtain ⟨_,h0⟩:=ckP h0
    obtain ⟨_,h0⟩:=ckP h0
    obtain ⟨_,h0⟩:=ckP h0
    obtain ⟨q02,l0,h0⟩:=af h0
    simp(config:=cS)only[go_sem, *]
    refine ak (m1:=.mk) (m2:=.mk) [.nf [7,8] [1920]] (lu) l0 ?_ ?_
    ·simp(config:=cS)only[go_sem, *]
    ·have k0:=h0
     clear h0 l0
     intro _ s0 _ h0 gb0
     obtain ⟨v8_1,v7_1⟩:=s0
     unfold aq at h0
     try dsimp only at h0
     exact run⟩
@[go_sem] def hi35_3:DT:=.i1 1 (.i1 2 (.i1 3 (.fork (.i0 0 [1,2,3] (.fork (.i2 4 (.fork (.i0 5 [1,2,3] (.i2 6 (.i0 7 [1,2,3] (.i2 8 .nil)))) (.i0 7 [1,2,3] (.i0 5 [1,2,3] (.i2 6 (.i2 8 .nil)))))) (.fork (.i0 5 [1,2,3] (.fork (.i2 4 (.i2 6 (.i0 7 [1,2,3] (.i2 8 .nil)))) (.i0 7 [1,2,3] (.i2 4 (.i2 6 (.i2 8 .nil)))))) (.i0 7 [1,2,3] (.fork (.i2 4 (.i0 5 [1,2,3] (.i2 6 (.i2 8 .nil)))) (.i0 5 [1,2,3] (.i2 4 (.i2 6 (.i2 8 .nil))))))))) (.fork (.i0 5 [1,2,3] (.fork (.i0 0 [1,2,3] (.fork (.i2 4 (.i2 6 (.i0 7 [1,2,3] (.i2 8 .nil)))) (.i0 7 [1,2,3] (.i2 4 (.i2 6 (.i2 8 .nil)))))) (.i0 7 [1,2,3] (.i0 0 [1,2,3] (.i2 4 (.i2 6 (.i2 8 .nil))))))) (.i0 7 [1,2,3] (.fork (.i0 0 [1,2,3] (.fork (.i2 4 (.i0 5 [1,2,3] (.i2 6 (.i2 8 .nil)))) (.i0 5 [1,2,3] (.i2 4 (.i2 6 (.i2 8 .nil)))))) (.i0 5 [1,2,3] (.i0 0 [1,2,3] (.i2 4 (.i2 6 (.i2 8 .nil)))))))))))
def hi35:Hint where
 acts:=fun _=>[]
 draws:=fun
  | 3=>⟨hi35_3,[[],[],[1],[1,2],[0,1,2,3],[],.range 6,[],.range 8],.range 9⟩
  | _=>⟨.nil,[],[]⟩
theorem Ts (i:Nat):hi35.acts i=[]:=rfl
theorem Tt (i:Nat):hi35.views i=none:=rfl
attribute [go_sem] Ts Tt Tryz.ntmps35 Tryz.results35
@[go_sem] theorem WG:(hi35.draws 3).order=hi35_3:=rfl
instance k35 {s:GShow}:Ctr (dF s) (fun (res:GState)=>aj Tryz.prog 35 [.agg (GShow.encS s)] [] (.agg [.lit (.int .i64 res.now),.ref 20000 1 0 res.times.length,.ref 20001 1 0 res.values.length]) [(20000,1,.row true (ab eI res.times)),(20001,1,.row true (ab eI res.values))]):=⟨by
 intro res h0
 refine aE (ra:=[.homeCell 128 1,.homeCell 128 2]) (md:=mdT) hT (hi:=hi35) Tryz.func35 rfl rfl (by decide +kernel) (by simp) ?_
 unfold dF at h0
 obtain ⟨r01,g0,h0⟩:=af h0
 simp(config:=cS)only[go_sem, *]
 have g0:=ctr g0
 refine ah g0 ?_
 obtain ⟨_,h0⟩|⟨_,h0⟩:=itB h0
 ·try simp(config:=cS)only[go_sem, *]
  refine dR ?_ ?_
  ·try simp(config:=cS)only[go_sem, *]
   refine dR ?_ ?_
   ·obtain ⟨r02,g0,h0⟩:=af h0
    simp(config:=cS)only[go_sem, *]
    have g0:=ctr g0
    refine ah g0 ?_
    try simp(config:=cS)only[go_sem, *]
    refine dR ?_ ?_
    ·obtain ⟨x03,g1,h0⟩:=af h0
     have:=cR (k:=0) g1
     exact run
    ·obtain ⟨x04,g2,h0⟩:=af h0
     have:=cR (k:=0) g2
     exact run
   ·try simp(config:=cS)only[go_sem, *]
    refine dR ?_ ?_
    ·try simp(config:=cS)only[go_sem, *]
     refine dR ?_ ?_
     ·obtain ⟨r05,g0,h0⟩:=af h0
      simp(config:=cS)only[go_sem, *]
      have g0:=ctr g0
      refine ah g0 ?_
      obtain ⟨x06,g3,h0⟩:=af h0
      have:=cR (k:=0) g3
      exact run
     ·obtain ⟨r07,g0,h0⟩:=af h0
      simp(config:=cS)only[go_sem, *]
      have g0:=ctr g0
      refine ah g0 ?_
      obtain ⟨x08,g4,h0⟩:=af h0
      have:=cR (k:=0) g4
      exact run
    ·try simp(config:=cS)only[go_sem, *]
     refine dR ?_ ?_
     ·obtain ⟨r09,g0,h0⟩:=af h0
      simp(config:=cS)only[go_sem, *]
      have g0:=ctr g0
      refine ah g0 ?_
      obtain ⟨x10,g5,h0⟩:=af h0
      have:=cR (k:=0) g5
      exact run
     ·obtain ⟨r11,g0,h0⟩:=af h0
      simp(config:=cS)only[go_sem, *]
      have g0:=ctr g0
      refine ah g0 ?_
      obtain ⟨x12,g6,h0⟩:=af h0
      have:=cR (k:=0) g6
      exact run
  ·try simp(config:=cS)only[go_sem, *]
   refine dR ?_ ?_
   ·try simp(config:=cS)only[go_sem, *]
    refine dR ?_ ?_
    ·try simp(config:=cS)only[go_sem, *]
     refine dR ?_ ?_
     ·obtain ⟨r13,g0,h0⟩:=af h0
      simp(config:=cS)only[go_sem, *]
      have g0:=ctr g0
      refine ah g0 ?_
      obtain ⟨x14,g7,h0⟩:=af h0
      have:=cR (k:=0) g7
      exact run
     ·obtain ⟨r15,g0,h0⟩:=af h0
      simp(config:=cS)only[go_sem, *]
      have g0:=ctr g0
      refine ah g0 ?_
      obtain ⟨x16,g8,h0⟩:=af h0
      have:=cR (k:=0) g8
      exact run
    ·obtain ⟨r17,g0,h0⟩:=af h0
     simp(config:=cS)only[go_sem, *]
     have g0:=ctr g0
     refine ah g0 ?_
     obtain ⟨x18,g9,h0⟩:=af h0
     have:=cR (k:=0) g9
     exact run
   ·try simp(config:=cS)only[go_sem, *]
    refine dR ?_ ?_
    ·try simp(config:=cS)only[go_sem, *]
     refine dR ?_ ?_
     ·obtain ⟨r19,g0,h0⟩:=af h0
      simp(config:=cS)only[go_sem, *]
      have g0:=ctr g0
      refine ah g0 ?_
      obtain ⟨x20,g10,h0⟩:=af h0
      have:=cR (k:=0) g10
      exact run
     ·obtain ⟨r21,g0,h0⟩:=af h0
      simp(config:=cS)only[go_sem, *]
      have g0:=ctr g0
      refine ah g0 ?_
      obtain ⟨x22,g11,h0⟩:=af h0
      have:=cR (k:=0) g11
      exact run
    ·obtain ⟨r23,g0,h0⟩:=af h0
     simp(config:=cS)only[go_sem, *]
     have g0:=ctr g0
     refine ah g0 ?_
     obtain ⟨x24,g12,h0⟩:=af h0
     have:=cR (k:=0) g12
     exact run
 ·exact run⟩
@[go_sem] def hi37_3:DT:=.i2 0 (.i1 2 (.i2 4 (.i0 1 [2] (.i2 3 (.r2 5 3 .nil)))))
def hi37:Hint where
 acts:=fun _=>[]
 draws:=fun
  | 3=>⟨hi37_3,[[],[0],[],[0,1,2],[],.range 5,.range 6,.range 7],.range 8⟩
  | _=>⟨.nil,[],[]⟩
theorem Tu (i:Nat):hi37.acts i=[]:=rfl
theorem Tv (i:Nat):hi37.views i=none:=rfl
attribute [go_sem] Tu Tv Tryz.ntmps37 Tryz.results37
@[go_sem] theorem WH:(hi37.draws 3).order=hi37_3:=rfl
instance k37 {s:GShow} {lazy:Bool}:Ctr (jZ s lazy) (fun (res:GDesk × Bool)=>aj Tryz.prog 37 [.agg (GShow.encS s),.lit (.bool lazy)] [] (.tup [.agg [.ref 20000 1 0 res.1.show_.nodes.length,.ref 20001 1 0 res.1.show_.ties.length,.lit (.int .i64 res.1.show_.horizon),.lit (.int .i64 res.1.state.now),.ref 20002 1 0 res.1.state.times.length,.ref 20003 1 0 res.1.state.values.length,.lit (.bool res.1.lazy),.ref 20004 1 0 res.1.log.length],.lit (.bool res.2)]) [(20000,1,.row true (ab GNode.encO res.1.show_.nodes)),(20001,1,.row true (ab GTie.enc res.1.show_.ties)),(20002,1,.row true (ab eI res.1.state.times)),(20003,1,.row true (ab eI res.1.state.values)),(20004,1,.row true (ab an.encO res.1.log))]):=⟨by
 intro res h0
 refine aE (ra:=[.homeCell 256 0,.homeCell 256 1,.homeCell 256 4,.homeCell 256 5,.homeCell 256 7]) (md:=mdT) hT (hi:=hi37) Tryz.func37 rfl rfl (by decide +kernel) (by simp) ?_
 unfold jZ at h0
 exact run⟩
def nn (d:Int)(e:List GNode)(f:List GTie)(g:Int)(b c a:List Int)(h:Int):St:=⟨[(2,.ptr 128 1 0 0),(3,.ptr 192 1 0 0),(24,.ref 704 1 0 a.length),(25,.lit (.int .i64 d)),(26,.lit (.int .i64 h))],[(128,1,.var [.sl (ab GNode.encS e),.sl (ab GTie.enc f),.lit (.int .i64 g)]),(192,1,.var [.sl (ab eI b),.sl (ab eI c)]),(704,1,.row true (ab eI a))],2⟩
attribute [go_sem] nn
def np (a:List Int)(b:Int)(c:List GNode)(d:List GTie)(e f:Int):St:=⟨[(2,.ptr 128 1 0 0),(59,.sl (ab eI a)),(60,.lit (.int .i64 b)),(61,.lit (.int .i64 f))],[(128,1,.var [.sl (ab GNode.encS c),.sl (ab GTie.enc d),.lit (.int .i64 e)])],2⟩
attribute [go_sem] np
@[go_sem] def hi85_7:DT:=.r2 0 26 .nil
def hi85:Hint where
 acts:=fun _=>[]
 draws:=fun
  | 7=>⟨hi85_7,[[],[0],[],[0,1,2],[0,1,2,3],[],[5],[],[5,6,7],[5,6,7,8],[5,6,7,8,9],.range 11,.range 12,.range 13,.range 14,.range 13,.range 16,.range 17,.range 13,[0,1,2,3,4,5,6,7,8,9,10,11,12,18],.range 13,[0,1,2,3,4,5,6,7,8,9,10,11,12,18,19,20],[0,1,2,3,4,5,6,7,8,9,10,11,12,18,19,20,21],[0,1,2,3,4,5,6,7,8,9,10,11,12,18,19,20,21,22],.range 24,.range 25],.range 26⟩
  | _=>⟨.nil,[],[]⟩
theorem Tw (i:Nat):hi85.acts i=[]:=rfl
theorem Tx (i:Nat):hi85.views i=none:=rfl
attribute [go_sem] Tw Tx Tryz.ntmps85 Tryz.results85
@[go_sem] theorem WI:(hi85.draws 7).order=hi85_7:=rfl
instance k85 {s:GShow} {v1:GChoice}:Ctr (dL s v1) (fun (res:Bool)=>aj Tryz.prog 85 [.agg (GShow.encS s),.agg [.sl (ab eI v1.lengths),.sl (ab eI v1.values)]] [] (.lit (.bool res)) []):=⟨by
 intro res h0
 refine co (hi:=hi85) Tryz.func85 rfl rfl ?_
 unfold dL at h0
 obtain ⟨r01,g0,h0⟩:=af h0
 simp(config:=cS)only[go_sem, *]
 have g0:=ctr g0
 refine ah g0 ?_
 obtain ⟨_,h0⟩|⟨_,h0⟩:=itP h0
 ·obtain ⟨_,h0⟩|⟨_,h0⟩:=itP h0
  ·obtain ⟨q09,l0,h0⟩:=af h0
   simp(config:=cS)only[go_sem, *]
   refine ak (m1:=.mk) (m2:=.mk) [.nf [2,3,24,25,26] [128,192,704]] (nn ((r01.length:Nat):Int) s.nodes s.ties s.horizon v1.lengths v1.values r01) l0 ?_ ?_
   ·simp(config:=cS)only[go_sem, *]
   ·have k0:=h0
    clear h0 l0
    intro _ v26_1 _ h0 gb0
    unfold eu at h0
    try dsimp only at h0
    obtain ⟨_,h0⟩|⟨_,h0⟩:=itP h0
    ·exact run
    ·cases h0
     obtain rfl:=(bc gb0).symm
     clear gb0
     have h0:=k0
     clear k0
     try dsimp only at h0
     obtain ⟨q08,l0,h0⟩:=af h0
     simp(config:=cS)only[go_sem, *]
     refine ak (m1:=.mk) (m2:=.mk) [.nf [2,59,60,61] [128]] (np v1.values ((v1.values.length:Nat):Int) s.nodes s.ties s.horizon) l0 ?_ ?_
     ·simp(config:=cS)only[go_sem, *]
     ·have k0:=h0
      clear h0 l0
      intro _ v61_2 _ h0 gb0
      unfold ew at h0
      try dsimp only at h0
      exact run
  ·exact run
 ·exact run⟩
@[go_sem] def hi159_1:DT:=.i1 0 (.i1 1 (.i2 2 (.i2 3 (.i1 5 (.i1 6 (.i0 4 [0,1,5,6] (.i0 7 [0,1] (.i2 8 (.i2 9 .nil)))))))))
def EJ:Hint where
 acts:=fun _=>[]
 draws:=fun
  | 1=>⟨hi159_1,[[],[0],[],[2],[2,3],[],[5],[2,3,4,5,6],.range 8,.range 9],.range 10⟩
  | _=>⟨.nil,[],[]⟩
theorem Rg (i:Nat):EJ.acts i=[]:=rfl
theorem Rh (i:Nat):EJ.views i=none:=rfl
attribute [go_sem] Rg Rh Tryz.ntmps159 Tryz.results159
@[go_sem] theorem VH:(EJ.draws 1).order=hi159_1:=rfl
instance k159 {v0:GState}:Ctr (dj v0) (fun (res:GState)=>aj Tryz.prog 159 [.agg (GState.encS v0)] [] (.agg [.lit (.int .i64 res.now),.ref 20000 1 0 res.times.length,.ref 20001 1 0 res.values.length]) [(20000,1,.row true (ab eI res.times)),(20001,1,.row true (ab eI res.values))]):=⟨by
 intro res h0
 refine aE (ra:=[.homeCell 128 1,.homeCell 128 2]) (md:=mdT) hT (hi:=EJ) Tryz.func159 rfl rfl (by decide +kernel) (by simp) ?_
 unfold dj at h0
 exact run⟩
def nZ (b:List an)(c:Int):(Int × (List an))→St
 | (d,a)=>⟨[(3,.ref 255 1 0 a.length),(6,.sl (ab an.encS b)),(7,.lit (.int .i64 c)),(8,.lit (.int .i64 d))],[(255,1,.row true (ab an.encO a))],2⟩
attribute [go_sem] nZ
@[go_sem] def hi160_5:DT:=.i2 0 (.i1 1 (.i1 2 (.i2 3 (.i2 4 (.i1 6 (.i1 7 (.i1 9 (.i1 10 (.i0 5 [1,2,6,7,9,10] (.i0 8 [1,2,9,10] (.i0 11 [1,2] (.r2 12 4 .nil))))))))))))
def EK:Hint where
 acts:=fun _=>[]
 draws:=fun
  | 5=>⟨hi160_5,[[],[],[1],[],[3],[3,4],[],[6],[3,4,5,6,7],[],[9],[3,4,5,6,7,8,9,10],[1,2,3,4,5,6,7,8,9,10,11],[1,2,3,4,5,6,7,8,9,10,11,12],.range 14,.range 15],.range 16⟩
  | _=>⟨.nil,[],[]⟩
theorem Ri (i:Nat):EK.acts i=[]:=rfl
theorem Rj (i:Nat):EK.views i=none:=rfl
attribute [go_sem] Ri Rj Tryz.ntmps160 Tryz.results160
@[go_sem] theorem VI:(EK.draws 5).order=hi160_5:=rfl
instance k160 {log:List an}:Ctr (ka log) (fun (res:List an)=>aj Tryz.prog 160 [.sl (ab an.encS log)] [] (.ref 20000 1 0 res.length) [(20000,1,.row true (ab an.encO res))]):=⟨by
 intro res h0
 refine aE (ra:=[.home 2]) (md:=mdT) hT (hi:=EK) Tryz.func160 rfl rfl (by decide +kernel) (by simp) ?_
 unfold ka at h0
 obtain ⟨q05,l0,h0⟩:=af h0
 simp(config:=cS)only[go_sem, *]
 refine ak (m1:=.mk) (m2:=.mk) [.home 3,.nf [3,6,7,8] [255]] (nZ log ((log.length:Nat):Int)) l0 ?_ ?_
 ·simp(config:=cS)only[go_sem, *]
 ·have k0:=h0
  clear h0 l0
  intro _ s0 _ h0 gb0
  obtain ⟨v8_1,out_1⟩:=s0
  unfold gT at h0
  try dsimp only at h0
  exact run⟩
@[go_sem] def hi84_1:DT:=.i2 0 (.i2 1 (.i1 3 (.i1 4 (.i1 6 (.i1 7 (.i1 8 (.i1 9 (.i0 2 [3,4,6,7,8,9] (.i0 5 [6,7,8,9] (.i0 10 [6,7] (.i2 11 (.i2 12 .nil))))))))))))
def hi84:Hint where
 acts:=fun _=>[]
 draws:=fun
  | 1=>⟨hi84_1,[[],[0],[0,1],[],[3],.range 5,[],[6],[],[8],[0,1,2,3,4,5,8,9],.range 11,.range 12],.range 13⟩
  | _=>⟨.nil,[],[]⟩
theorem Tz (i:Nat):hi84.acts i=[]:=rfl
theorem TA (i:Nat):hi84.views i=none:=rfl
attribute [go_sem] Tz TA Tryz.ntmps84 Tryz.results84
@[go_sem] theorem WJ:(hi84.draws 1).order=hi84_1:=rfl
instance k84 {d:GDesk}:Ctr (gH d) (fun (res:GDesk)=>aj Tryz.prog 84 [.agg (GDesk.encS d)] [] (.agg [.ref 20000 1 0 res.show_.nodes.length,.ref 20001 1 0 res.show_.ties.length,.lit (.int .i64 res.show_.horizon),.lit (.int .i64 res.state.now),.ref 20002 1 0 res.state.times.length,.ref 20003 1 0 res.state.values.length,.lit (.bool res.lazy),.ref 20004 1 0 res.log.length]) [(20000,1,.row true (ab GNode.encO res.show_.nodes)),(20001,1,.row true (ab GTie.enc res.show_.ties)),(20002,1,.row true (ab eI res.state.times)),(20003,1,.row true (ab eI res.state.values)),(20004,1,.row true (ab an.encO res.log))]):=⟨by
 intro res h0
 refine aE (ra:=[.homeCell 128 0,.homeCell 128 1,.homeCell 128 4,.homeCell 128 5,.homeCell 128 7]) (md:=mdT) hT (hi:=hi84) Tryz.func84 rfl rfl (by decide +kernel) (by simp) ?_
 unfold gH at h0
 exact run⟩
attribute [go_sem] Tryz.ntmps269 Tryz.results269
instance k269 {n:Int}:Ctr (jh n) (fun (res:Bool)=>aj Tryz.prog 269 [.lit (.int .i64 n)] [] (.lit (.bool res)) []):=⟨by
 intro res h0
 refine co (hi:=hi00) Tryz.func269 rfl rfl ?_
 unfold jh at h0
 exact run⟩
attribute [go_sem] Tryz.ntmps201 Tryz.results201
instance k201 {v:List Int}:Ctr (gD v) (fun (res:Bool)=>aj Tryz.prog 201 [.sl (ab eI v)] [] (.lit (.bool res)) []):=⟨by
 intro res h0
 refine co (hi:=hi00) Tryz.func201 rfl rfl ?_
 unfold gD at h0
 obtain ⟨_,h0⟩|⟨_,h0⟩:=itP h0
 ·obtain ⟨r01,g0,h0⟩:=af h0
  simp(config:=cS)only[go_sem, *]
  refine ah (bY (by exact fun _ _ hr=>by have q:=ctr hr;exact q) (by refine ⟨fun _=>?_,fun _=>?_⟩ <;> simp only [go_sem]) (fun _=>rfl) rfl g0) ?_
  exact run
 ·exact run⟩
def oa (a:List Int)(d:Int)(e:List GNode)(f:List GTie)(g b:Int)(c:List Int)(h:Int):St:=⟨[(2,.ptr 128 1 0 0),(3,.ptr 192 1 0 0),(37,.sl (ab eI a)),(38,.lit (.int .i64 d)),(39,.lit (.int .i64 h))],[(128,1,.var [.sl (ab GNode.encS e),.sl (ab GTie.enc f),.lit (.int .i64 g)]),(192,1,.var [.lit (.int .i64 b),.sl (ab eI a),.sl (ab eI c)])],2⟩
attribute [go_sem] oa
def ob (a:List Int)(d:Int)(e:List GNode)(f:List GTie)(g b:Int)(c:List Int)(h:Int):St:=⟨[(2,.ptr 128 1 0 0),(3,.ptr 192 1 0 0),(67,.sl (ab eI a)),(68,.lit (.int .i64 d)),(69,.lit (.int .i64 h))],[(128,1,.var [.sl (ab GNode.encS e),.sl (ab GTie.enc f),.lit (.int .i64 g)]),(192,1,.var [.lit (.int .i64 b),.sl (ab eI c),.sl (ab eI a)])],2⟩
attribute [go_sem] ob
attribute [go_sem] Tryz.ntmps188 Tryz.results188
instance k188 {s:GShow} {v1:GState}:Ctr (kb s v1) (fun (res:Bool)=>aj Tryz.prog 188 [.agg (GShow.encS s),.agg (GState.encS v1)] [] (.lit (.bool res)) []):=⟨by
 intro res h0
 refine co (hi:=hi00) Tryz.func188 rfl rfl ?_
 unfold kb at h0
 obtain ⟨_,h0⟩|⟨_,h0⟩:=itP h0
 ·exact run
 ·obtain ⟨_,h0⟩|⟨_,h0⟩:=itP h0
  ·exact run
  ·obtain ⟨_,h0⟩|⟨_,h0⟩:=itP h0
   ·obtain ⟨r01,g0,h0⟩:=af h0
    simp(config:=cS)only[go_sem, *]
    have g0:=ctr g0
    refine ah g0 ?_
    obtain ⟨_,h0⟩|⟨_,h0⟩:=itB h0
    ·obtain ⟨q07,l0,h0⟩:=af h0
     simp(config:=cS)only[go_sem, *]
     refine ak (m1:=.mk) (m2:=.mk) [.nf [2,3,37,38,39] [128,192]] (oa v1.times ((v1.times.length:Nat):Int) s.nodes s.ties s.horizon v1.now v1.values) l0 ?_ ?_
     ·simp(config:=cS)only[go_sem, *]
     ·have k0:=h0
      clear h0 l0
      intro _ v39_1 _ h0 gb0
      unfold fh at h0
      try dsimp only at h0
      obtain ⟨_,h0⟩|⟨_,h0⟩:=itP h0
      ·exact run
      ·cases h0
       obtain rfl:=(bc gb0).symm
       clear gb0
       have h0:=k0
       clear k0
       try dsimp only at h0
       obtain ⟨q06,l0,h0⟩:=af h0
       simp(config:=cS)only[go_sem, *]
       refine ak (m1:=.mk) (m2:=.mk) [.nf [2,3,67,68,69] [128,192]] (ob v1.values ((v1.values.length:Nat):Int) s.nodes s.ties s.horizon v1.now v1.times) l0 ?_ ?_
       ·simp(config:=cS)only[go_sem, *]
       ·have k0:=h0
        clear h0 l0
        intro _ v69_2 _ h0 gb0
        unfold fi at h0
        try dsimp only at h0
        exact run
    ·exact run
   ·exact run⟩
attribute [go_sem] Tryz.ntmps95 Tryz.results95
instance k95 {s:GShow} {v1:GState}:Ctr (eA s v1) (fun (res:Bool)=>aj Tryz.prog 95 [.agg (GShow.encS s),.agg (GState.encS v1)] [] (.lit (.bool res)) []):=⟨by
 intro res h0
 refine co (hi:=hi00) Tryz.func95 rfl rfl ?_
 unfold eA at h0
 exact run⟩
def oU (g:List GTie)(e b:Int)(c d:List Int):(Int × (List Int))→St
 | (f,a)=>⟨[(3,.ptr 192 1 0 0),(5,.ref 383 1 0 a.length),(9,.sl (ab GTie.enc g)),(10,.lit (.int .i64 e)),(11,.lit (.int .i64 f))],[(192,1,.var [.lit (.int .i64 b),.sl (ab eI c),.sl (ab eI d)]),(383,1,.row true (ab eI a))],2⟩
attribute [go_sem] oU
attribute [go_sem] Tryz.ntmps167 Tryz.results167
instance k167 {s:GShow} {v1:GState}:Ctr (iW s v1) (fun (res:List Int)=>aj Tryz.prog 167 [.agg (GShow.encS s),.agg (GState.encS v1)] [] (.ref 20000 1 0 res.length) [(20000,1,.row true (ab eI res))]):=⟨by
 intro res h0
 refine aE (ra:=[.home 4]) (md:=mdT) hT (hi:=hi00) Tryz.func167 rfl rfl (by decide +kernel) (by simp) ?_
 unfold iW at h0
 obtain ⟨q04,l0,h0⟩:=af h0
 simp(config:=cS)only[go_sem, *]
 refine ak (m1:=.mk) (m2:=.mk) [.home 5,.nf [3,5,9,10,11] [192,383]] (oU s.ties ((s.ties.length:Nat):Int) v1.now v1.times v1.values) l0 ?_ ?_
 ·simp(config:=cS)only[go_sem, *]
 ·have k0:=h0
  clear h0 l0
  intro _ s0 _ h0 gb0
  obtain ⟨v11_1,out_1⟩:=s0
  unfold iC at h0
  try dsimp only at h0
  exact run⟩
def oc (b:Int)(d:List Int)(e:Int):(Int × (List Int))→St
 | (c,a)=>⟨[(1,.lit (.int .i64 b)),(5,.ref 383 1 0 a.length),(8,.sl (ab eI d)),(9,.lit (.int .i64 e)),(10,.lit (.int .i64 c))],[(383,1,.row true (ab eI a))],2⟩
attribute [go_sem] oc
attribute [go_sem] Tryz.ntmps248 Tryz.results248
instance k248 {list:List Int} {set:Int}:Ctr (ir list set) (fun (res:List Int)=>aj Tryz.prog 248 [.sl (ab eI list),.lit (.int .i64 set)] [] (.ref 20000 1 0 res.length) [(20000,1,.row true (ab eI res))]):=⟨by
 intro res h0
 refine aE (ra:=[.home 4]) (md:=mdT) hT (hi:=hi00) Tryz.func248 rfl rfl (by decide +kernel) (by simp) ?_
 unfold ir at h0
 obtain ⟨q02,l0,h0⟩:=af h0
 simp(config:=cS)only[go_sem, *]
 refine ak (m1:=.mk) (m2:=.mk) [.home 5,.nf [1,5,8,9,10] [383]] (oc set list ((list.length:Nat):Int)) l0 ?_ ?_
 ·simp(config:=cS)only[go_sem, *]
 ·have k0:=h0
  clear h0 l0
  intro _ s0 _ h0 gb0
  obtain ⟨v10_1,out_1⟩:=s0
  unfold gU at h0
  try dsimp only at h0
  exact run⟩
attribute [go_sem] Tryz.ntmps290 Tryz.results290
instance k290 {v1:Int}:Ctr (gV v1) (fun (res:List Int × Nat)=>aj Tryz.prog 290 [.lit (.slice none 0 0),.lit (.int .i64 v1)] [] (.ref 20000 1 0 res.2) [(20000,1,.row true (ab eI res.1))]):=⟨by
 intro res h0
 refine aE (ra:=[.home 4]) (md:=mdT) hT (hi:=hi00) Tryz.func290 rfl rfl (by decide +kernel) (by simp) ?_
 unfold gV at h0
 exact run⟩
def lv (a:List (List Int))(b:Int):(Int × Int)→St
 | (d,c)=>⟨[(0,.sl (ab (eLS eI) a)),(3,.lit (.int .i64 d)),(9,.sl (ab (eLS eI) a)),(10,.lit (.int .i64 b)),(11,.lit (.int .i64 c))],[],2⟩
attribute [go_sem] lv
def lw (b:List (List Int))(c:Int):(Nat × Int × (List Int))→St
 | (a,d,e)=>⟨[(6,.ref 1536 1 0 a),(25,.sl (ab (eLS eI) b)),(26,.lit (.int .i64 c)),(27,.lit (.int .i64 d))],[(1536,1,.row true (ab eI e))],2⟩
attribute [go_sem] lw
attribute [go_sem] Tryz.ntmps247 Tryz.results247
instance k247 {v0:List (List Int)}:Ctr (fC v0) (fun (res:List Int)=>aj Tryz.prog 247 [.sl (ab (eLS eI) v0)] [] (.ref 20000 1 0 res.length) [(20000,1,.row true (ab eI res))]):=⟨by
 intro res h0
 refine aE (ra:=[.home 2,.trimT 2]) (md:=mdT) hT (hi:=hi00) Tryz.func247 rfl rfl (by decide +kernel) (by simp) ?_
 unfold fC at h0
 obtain ⟨q05,l0,h0⟩:=af h0
 simp(config:=cS)only[go_sem, *]
 refine ak (m1:=.mk) (m2:=.mk) [.nf [0,3,9,10,11] []] (lv v0 ((v0.length:Nat):Int)) l0 ?_ ?_
 ·simp(config:=cS)only[go_sem, *]
 ·have k0:=h0
  clear h0 l0
  intro _ s0 _ h0 gb0
  obtain ⟨v3_1,v11_1⟩:=s0
  unfold dT at h0
  try dsimp only at h0
  obtain ⟨_,h0⟩|⟨_,h0⟩:=itP h0
  ·exact run
  ·cases h0
   obtain rfl:=(bc gb0).symm
   clear gb0
   have h0:=k0
   clear k0
   try dsimp only at h0
   obtain ⟨r02,g0,h0⟩:=af h0
   simp(config:=cS)only[go_sem, *]
   have g0:=ctr g0
   refine ah g0 ?_
   obtain ⟨q04,l0,h0⟩:=af h0
   simp(config:=cS)only[go_sem, *]
   refine ak (m1:=.mk) (m2:=.mk) [.nf [6,25,26,27] [1536]] (lw v0 ((v0.length:Nat):Int)) l0 ?_ ?_
   ·simp(config:=cS)only[go_sem, *]
   ·have k0:=h0
    clear h0 l0
    intro _ s0 _ h0 gb0
    obtain ⟨v6_n_2,v27_2,v6_2⟩:=s0
    unfold dU at h0
    try dsimp only at h0
    exact run⟩
attribute [go_sem] Tryz.ntmps318 Tryz.results318
instance k318 {v0:Int}:Ctr (qZ v0) (fun (res:Int)=>aj Tryz.prog 318 [.lit (.int .u64 v0)] [] (.lit (.int .i64 res)) []):=⟨by
 intro res h0
 refine co (hi:=hi00) Tryz.func318 rfl rfl ?_
 unfold qZ at h0
 exact run⟩
attribute [go_sem] Tryz.ntmps292 Tryz.results292
instance k292 {v0:Int}:Ctr (qv v0) (fun (res:Int)=>aj Tryz.prog 292 [.lit (.int .u64 v0)] [] (.lit (.int .i64 res)) []):=⟨by
 intro res h0
 refine co (hi:=hi00) Tryz.func292 rfl rfl ?_
 unfold qv at h0
 exact run⟩
attribute [go_sem] Tryz.ntmps334 Tryz.results334
instance k334 {v0:Int}:Ctr (jn v0) (fun (res:Bool)=>aj Tryz.prog 334 [.lit (.int .i64 v0)] [] (.lit (.bool res)) []):=⟨by
 intro res h0
 refine co (hi:=hi00) Tryz.func334 rfl rfl ?_
 unfold jn at h0
 exact run⟩
attribute [go_sem] Tryz.ntmps314 Tryz.results314
instance k314 {v0:Int} {v1:Int}:Ctr (kc v0 v1) (fun (res:Bool)=>aj Tryz.prog 314 [.lit (.int .i64 v0),.lit (.int .i64 v1)] [] (.lit (.bool res)) []):=⟨by
 intro res h0
 refine co (hi:=hi00) Tryz.func314 rfl rfl ?_
 unfold kc at h0
 exact run⟩
def fv (a:Bool)(c d e:Int):(Int × (List Int))→St
 | (f,b)=>⟨[(0,.ref 10000 0 0 b.length),(1,.lit (.int .i64 c)),(2,.lit (.int .i64 d)),(6,.lit (.int .i64 e)),(7,.lit (.int .i64 f))],[(10000,0,.row a (ab eI b))],2⟩
attribute [go_sem] fv
def fw (a:Bool)(c d:Int):(Int × (List Int))→St
 | (e,b)=>⟨[(0,.ref 10000 0 0 b.length),(1,.lit (.int .i64 c)),(2,.lit (.int .i64 d)),(6,.lit (.int .i64 e))],[(10000,0,.row a (ab eI b))],2⟩
attribute [go_sem] fw
@[go_sem] def hi308_6:DT:=.r2 0 18 .nil
@[go_sem] def hi308_4:DT:=.r2 0 15 .nil
def AG:Hint where
 acts:=fun _=>[]
 draws:=fun
  | 4=>⟨hi308_4,[[],[],[0,1],[0,1,2],[0,1,2,3],[0,1,2,3],.range 6,.range 7,[0,1,2,3],[0,1,2,3],[0,1,2,3,9],[0,1,2,3,8,9,10],[0,1,2,3,8,9,10,11],.range 13,.range 14],.range 15⟩
  | 6=>⟨hi308_6,[[],[],[],[],[3],[],[],[6],[5,6,7],[5,6,7,8],[],[],[10,11],[10,11,12],[0,1,5,6,7,8,9,10,11,12,13],[0,1,5,6,7,8,9,10,11,12,13,14],.range 16,.range 17],[0,1,13,14,15,2,3,4,5,6,7,8,9,10,11,12,16,17]⟩
  | _=>⟨.nil,[],[]⟩
theorem Rk (i:Nat):AG.acts i=[]:=rfl
theorem Rl (i:Nat):AG.views i=none:=rfl
attribute [go_sem] Rk Rl Tryz.ntmps308 Tryz.results308
@[go_sem] theorem VJ:(AG.draws 4).order=hi308_4:=rfl
@[go_sem] theorem VK:(AG.draws 6).order=hi308_6:=rfl
theorem my {v0:List Int}{v1 v2:Int}{zb0:Bool}{res:List Int}(h0:bL v0 v1 v2=some res):aj Tryz.prog 308 [.ref 10000 0 0 v0.length,.lit (.int .i64 v1),.lit (.int .i64 v2)] [(10000,0,.row zb0 (ab eI v0))] (.tup []) [(10000,0,.row zb0 (ab eI res))]:=by
 refine co (hi:=AG) Tryz.func308 rfl rfl ?_
 unfold bL at h0
 obtain ⟨q06,l0,h0⟩:=af h0
 simp(config:=cS)only[go_sem, *]
 refine ak (m1:=.mk) (m2:=.mk) [.nf [0,1,2,6] [10000]] (fw zb0 v1 v2) l0 ?_ ?_
 ·simp(config:=cS)only[go_sem, *]
 ·have k0:=h0
  clear h0 l0
  intro _ s0 _ h0 gb0
  obtain ⟨v6_1,v0_1⟩:=s0
  unfold bf at h0
  try dsimp only at h0
  obtain ⟨_,h0⟩|⟨_,h0⟩:=itP h0
  ·obtain ⟨q05,l0,h0⟩:=af h0
   simp(config:=cS)only[go_sem, *]
   refine ak (m1:=.mk) (m2:=.mk) [.nf [0,1,2,6,7] [10000]] (fv zb0 v1 v2 v6_1) l0 ?_ ?_
   ·simp(config:=cS)only[go_sem, *]
   ·have k0:=h0
    clear h0 l0
    intro _ s0 _ h0 gb0
    obtain ⟨v7_2,v0_2⟩:=s0
    unfold aO at h0
    try dsimp only at h0
    exact run
  ·exact run
def ij (a:Bool)(c d e:Int)(b:List Int)(_:Unit):St:=⟨[(0,.ref 10000 0 0 b.length),(1,.lit (.int .i64 c)),(2,.lit (.int .i64 d)),(3,.lit (.int .i64 e)),(8,.lit (.bool true)),(9,.lit (.bool true))],[(10000,0,.row a (ab eI b))],2⟩
attribute [go_sem] ij
@[go_sem] def hi291_17:DT:=.r2 0 15 .nil
def EL:Hint where
 acts:=fun _=>[]
 draws:=fun
  | 17=>⟨hi291_17,[[],[0],[0,1],[0,1,2],[0,1,2],[0,1,2,4],.range 6,.range 7,[0,1,2],[0,1,2],[0,1,2,8,9],[0,1,2,8,9,10],.range 12,.range 13,.range 14],.range 15⟩
  | _=>⟨.nil,[],[]⟩
theorem Rm (i:Nat):EL.acts i=[]:=rfl
theorem Rn (i:Nat):EL.views i=none:=rfl
attribute [go_sem] Rm Rn Tryz.ntmps291 Tryz.results291
@[go_sem] theorem Us:(EL.draws 17).order=hi291_17:=rfl
theorem pJ {v0:List Int}{v1 v2 v3:Int}{zb0:Bool}{res:List Int}(h0:cu v0 v1 v2 v3=some res):aj Tryz.prog 291 [.ref 10000 0 0 v0.length,.lit (.int .i64 v1),.lit (.int .i64 v2),.lit (.int .i64 v3)] [(10000,0,.row zb0 (ab eI v0))] (.tup []) [(10000,0,.row zb0 (ab eI res))]:=by
 refine co (hi:=EL) Tryz.func291 rfl rfl ?_
 unfold cu at h0
 obtain ⟨q02,l0,h0⟩:=af h0
 simp(config:=cS)only[go_sem, *]
 refine ak (m1:=.mk) (m2:=.mk) [.nf [0,1,2,3,8,9] [10000]] (ij zb0 v1 v2 v3 v0) l0 ?_ ?_
 ·simp(config:=cS)only[go_sem, *]
 ·have k0:=h0
  clear h0 l0
  intro _ s0 _ h0 gb0
  unfold eQ at h0
  try dsimp only at h0
  obtain ⟨_,h0⟩|⟨_,h0⟩:=itP h0
  ·obtain ⟨r01,g0,h0⟩:=af h0
   simp(config:=cS)only[go_sem, *]
   refine ah (my g0) ?_
   exact run
  ·exact run
attribute [go_sem] Tryz.ntmps249 Tryz.results249
theorem qh {v0:List Int}{zb0:Bool}{res:List Int}(h0:ch v0=some res):aj Tryz.prog 249 [.ref 10000 0 0 v0.length] [(10000,0,.row zb0 (ab eI v0))] (.tup []) [(10000,0,.row zb0 (ab eI res))]:=by
 refine co (hi:=hi00) Tryz.func249 rfl rfl ?_
 unfold ch at h0
 obtain ⟨r01,g0,h0⟩:=af h0
 simp(config:=cS)only[go_sem, *]
 have g0:=ctr g0
 refine ah g0 ?_
 obtain ⟨r02,g0,h0⟩:=af h0
 simp(config:=cS)only[go_sem, *]
 refine ah (pJ g0) ?_
 exact run
def oe (g:Int)(h:List GNode)(i:List GTie)(j d:Int)(e f b:List Int):(Int × (List Int) × (List Int))→St
 | (k,a,c)=>⟨[(2,.ptr 128 1 0 0),(3,.ptr 192 1 0 0),(5,.ref 383 1 0 a.length),(6,.ref 447 1 0 c.length),(20,.ref 1280 1 0 b.length),(21,.lit (.int .i64 g)),(22,.lit (.int .i64 k))],[(128,1,.var [.sl (ab GNode.encS h),.sl (ab GTie.enc i),.lit (.int .i64 j)]),(192,1,.var [.lit (.int .i64 d),.sl (ab eI e),.sl (ab eI f)]),(383,1,.row true (ab eI a)),(447,1,.row true (ab eI c)),(1280,1,.row true (ab eI b))],2⟩
attribute [go_sem] oe
def og (a b:List Int):(Int × (List (List Int)))→St
 | (d,c)=>⟨[(5,.ref 383 1 0 a.length),(6,.ref 447 1 0 b.length),(10,.ref 703 1 0 c.length),(11,.lit (.int .i64 d))],[(383,1,.tree (ab eI a)),(447,1,.row true (ab eI b)),(703,1,.row true (ab (eLO eI) c))],2⟩
attribute [go_sem] og
@[go_sem] def hi171_7:DT:=.r2 0 14 .nil
def EM:Hint where
 acts:=fun _=>[]
 draws:=fun
  | 7=>⟨hi171_7,[[],[0],[],[2],[],[4],[],[4,5,6],[4,5,6,7],[4,5,6,7,8],[2,3,4,5,6,7,8,9],[2,3,4,5,6,7,8,9,10],.range 12,.range 13],.range 14⟩
  | _=>⟨.nil,[],[]⟩
theorem Ro (i:Nat):EM.acts i=[]:=rfl
theorem Rp (i:Nat):EM.views i=none:=rfl
attribute [go_sem] Ro Rp Tryz.ntmps171 Tryz.results171
@[go_sem] theorem VL:(EM.draws 7).order=hi171_7:=rfl
instance k171 {s:GShow} {v1:GState}:Ctr (fU s v1) (fun (res:List (List Int))=>aj Tryz.prog 171 [.agg (GShow.encS s),.agg (GState.encS v1)] [] (.ref 20000 1 0 res.length) [(20000,1,.row true (ab (eLO eI) res))]):=⟨by
 intro res h0
 refine aE (ra:=[.home 4]) (md:=mdT) hT (hi:=EM) Tryz.func171 rfl rfl (by decide +kernel) (by simp) ?_
 unfold fU at h0
 obtain ⟨_,h0⟩|⟨_,h0⟩:=itP h0
 ·exact run
 ·obtain ⟨r01,g0,h0⟩:=af h0
  simp(config:=cS)only[go_sem, *]
  have g0:=ctr g0
  refine ah g0 ?_
  obtain ⟨q09,l0,h0⟩:=af h0
  simp(config:=cS)only[go_sem, *]
  refine ak (m1:=.mk) (m2:=.mk) [.home 5,.home 6,.nf [2,3,5,6,20,21,22] [128,192,383,447,1280]] (oe ((r01.length:Nat):Int) s.nodes s.ties s.horizon v1.now v1.times v1.values r01) l0 ?_ ?_
  ·simp(config:=cS)only[go_sem, *]
  ·have k0:=h0
   clear h0 l0
   intro _ s0 _ h0 gb0
   obtain ⟨v22_1,must_1,may_1⟩:=s0
   unfold gW at h0
   try dsimp only at h0
   obtain ⟨_,h0⟩|⟨_,h0⟩:=itP h0
   ·exact run
   ·cases h0
    obtain rfl:=(bc gb0).symm
    clear gb0
    have h0:=k0
    clear k0
    try dsimp only at h0
    obtain ⟨q08,l0,h0⟩:=af h0
    simp(config:=cS)only[go_sem, *]
    refine ak (m1:=.mk) (m2:=.mk) [.home 10,.freeze [383],.nf [5,6,10,11] [383,447,703]] (og must_1 may_1) l0 ?_ ?_
    ·simp(config:=cS)only[go_sem, *]
    ·have k0:=h0
     clear h0 l0
     intro _ s0 _ h0 gb0
     obtain ⟨set_2,out_2⟩:=s0
     unfold gX at h0
     try dsimp only at h0
     obtain ⟨_,h0⟩:=ckN h0
     obtain ⟨_,h0⟩|⟨_,h0⟩:=itP h0
     ·obtain ⟨r05,g0,h0⟩:=af h0
      simp(config:=cS)only[go_sem, *]
      have g0:=ctr g0
      refine ah g0 ?_
      obtain ⟨r06,g0,h0⟩:=af h0
      simp(config:=cS)only[go_sem, *]
      have g0:=ctr g0
      refine ah g0 ?_
      obtain ⟨r07,g0,h0⟩:=af h0
      simp(config:=cS)only[go_sem, *]
      refine ah (qh g0) ?_
      exact run
     ·exact run⟩
def jC (c:List (List Int))(a:Nat)(b:List AV)(d e:Int):St:=⟨[(0,.sl (ab (eLS eI) c)),(1,.fn a b),(7,.lit (.int .i64 d)),(8,.lit (.int .i64 e))],[],2⟩
attribute [go_sem] jC
attribute [go_sem] Tryz.ntmps289 Tryz.results289
theorem rv {v0:List (List Int)}{v1:(List Int)→Option Bool}{f_v1:Nat}{k_v1:List AV}(hp_v1:∀ y0 r,v1 y0=some r→aj Tryz.prog f_v1 ([.sl (ab eI y0)]++k_v1) [] (.lit (.bool r)) [])(hc_v1:KC k_v1)(hm_v1:∀ a,mdT f_v1 a=⟨[],false⟩)(hk_v1:spf f_v1=false){res:Int}(h:dD v0 v1=some res):aj Tryz.prog 289 [.sl (ab (eLS eI) v0),.fn f_v1 k_v1] [] (.lit (.int .i64 res)) []:=by
 refine co (hi:=hi00) Tryz.func289 rfl rfl ?_
 unfold dD at h
 obtain ⟨q03,l1,h⟩:=af h
 simp(config:=cS)only[go_sem,hc_v1.1,hc_v1.2,hm_v1,hk_v1]
 refine ak (m1:=.mk) (m2:=.mk) [.nf [0,1,7,8] []] (jC v0 f_v1 k_v1 ((v0.length:Nat):Int)) l1 ?_ ?_
 ·simp(config:=cS)only[go_sem,hc_v1.1,hc_v1.2,hm_v1,hk_v1]
 ·intro nb2 v8_1 bb2 b2 gb2
  unfold bR at b2
  try dsimp only at b2
  obtain ⟨h3,b2⟩|⟨h3,b2⟩:=bq b2
  ·obtain ⟨x01,g4,b2⟩:=af b2
   obtain ⟨h5,h6,h7⟩:=dK g4
   obtain ⟨r02,g8,b2⟩:=af b2
   simp(config:=cS)only[go_sem,hc_v1.1,hc_v1.2,hm_v1,hk_v1,eqT h3,h5,h6,h7]
   refine ah (hp_v1 _ _ g8) ?_
   obtain ⟨h9,b2⟩|⟨h9,b2⟩:=bq b2
   ·cases b2
    obtain rfl:=(bc gb2).symm
    try dsimp only at h
    cases h
    simp(config:=cS)only[go_sem,hc_v1.1,hc_v1.2,hm_v1,hk_v1,eqT h3,h5,h6,h7,eZt h9]
   ·cases b2
    simp(config:=cS)only[go_sem,hc_v1.1,hc_v1.2,hm_v1,hk_v1,eqT h3,h5,h6,h7,eZf h9]
    refine io gb2 ?_
    simp(config:=cS)only[go_sem,hc_v1.1,hc_v1.2,hm_v1,hk_v1,eqT h3,h5,h6,h7,eZf h9]
  ·cases b2
   obtain rfl:=(bc gb2).symm
   try dsimp only at h
   cases h
   simp(config:=cS)only[go_sem,hc_v1.1,hc_v1.2,hm_v1,hk_v1,eqF h3]
attribute [go_sem] Tryz.ntmps245 Tryz.results245
theorem qd {v0:List (List Int)}{v1:(List Int)→Option Bool}{f_v1:Nat}{k_v1:List AV}(hp_v1:∀ y0 r,v1 y0=some r→aj Tryz.prog f_v1 ([.sl (ab eI y0)]++k_v1) [] (.lit (.bool r)) [])(hc_v1:KC k_v1)(hm_v1:∀ a,mdT f_v1 a=⟨[],false⟩)(hk_v1:spf f_v1=false){res:Bool}(h:ea v0 v1=some res):aj Tryz.prog 245 [.sl (ab (eLS eI) v0),.fn f_v1 k_v1] [] (.lit (.bool res)) []:=by
 refine co (hi:=hi00) Tryz.func245 rfl rfl ?_
 unfold ea at h
 obtain ⟨r01,g1,h⟩:=af h
 simp(config:=cS)only[go_sem,hc_v1.1,hc_v1.2,hm_v1,hk_v1]
 refine ah (rv hp_v1 hc_v1 hm_v1 hk_v1 g1) ?_
 cases h
 simp(config:=cS)only[go_sem,hc_v1.1,hc_v1.2,hm_v1,hk_v1]
attribute [go_sem] Tryz.ntmps246 Tryz.results246
instance k246 {y:List Int} {v1:List Int}:Ctr (mJ y v1) (fun (res:Bool)=>aj Tryz.prog 246 [.sl (ab eI y),.loc [.sl (ab eI v1)]] [] (.lit (.bool res)) []):=⟨by
 intro res h0
 refine co (hi:=hi00) Tryz.func246 rfl rfl ?_
 unfold mJ at h0
 exact run⟩
attribute [go_sem] Tryz.ntmps170 Tryz.results170
instance k170 {list:List (List Int)} {v1:List Int}:Ctr (kD list v1) (fun (res:Bool)=>aj Tryz.prog 170 [.sl (ab (eLS eI) list),.sl (ab eI v1)] [] (.lit (.bool res)) []):=⟨by
 intro res h0
 refine co (hi:=hi00) Tryz.func170 rfl rfl ?_
 unfold kD at h0
 obtain ⟨r01,g0,h0⟩:=af h0
 simp(config:=cS)only[go_sem, *]
 refine ah (qd (by exact fun _ _ hr=>by have q:=ctr hr;exact q) (by refine ⟨fun _=>?_,fun _=>?_⟩ <;> simp only [go_sem]) (fun _=>rfl) rfl g0) ?_
 exact run⟩
def pK (g:List Int)(h:Int)(i:List GNode)(j:List GTie)(k d:Int)(e f:List Int)(c:Int)(a:List Int):(Int × (List Int))→St
 | (l,b)=>⟨[(3,.ptr 192 1 0 0),(4,.ptr 256 1 0 0),(6,.ptr 384 1 0 0),(7,.ptr 448 1 0 0),(12,.sl (ab eI g)),(13,.lit (.int .i64 h)),(14,.lit (.int .i64 l))],[(192,1,.var [.sl (ab GNode.encS i),.sl (ab GTie.enc j),.lit (.int .i64 k)]),(256,1,.var [.lit (.int .i64 d),.sl (ab eI e),.sl (ab eI f)]),(384,1,.var [.lit (.int .i64 0),.lit (.slice none 0 0),.lit (.slice none 0 0)]),(448,1,.var [.lit (.int .i64 c),.ref 704 1 0 b.length,.ref 705 1 0 a.length]),(704,1,.row true (ab eI b)),(705,1,.row true (ab eI a))],2⟩
attribute [go_sem] pK
@[go_sem] def hi173_5:DT:=.r2 0 12 .nil
def EN:Hint where
 acts:=fun _=>[]
 draws:=fun
  | 5=>⟨hi173_5,[[],[0],[],[2],[],[2,3,4],[2,3,4,5],[2,3,4,5,6],[],[8],.range 10,.range 11],.range 12⟩
  | _=>⟨.nil,[],[]⟩
theorem Rq (i:Nat):EN.acts i=[]:=rfl
theorem Rr (i:Nat):EN.views i=none:=rfl
attribute [go_sem] Rq Rr Tryz.ntmps173 Tryz.results173
@[go_sem] theorem VM:(EN.draws 5).order=hi173_5:=rfl
instance k173 {s:GShow} {v1:GState} {ties:List Int}:Ctr (iD s v1 ties) (fun (res:GState)=>aj Tryz.prog 173 [.agg (GShow.encS s),.agg (GState.encS v1),.sl (ab eI ties)] [] (.agg [.lit (.int .i64 res.now),.ref 20000 1 0 res.times.length,.ref 20001 1 0 res.values.length]) [(20000,1,.row true (ab eI res.times)),(20001,1,.row true (ab eI res.values))]):=⟨by
 intro res h0
 refine aE (ra:=[.homeCell 384 1,.homeCell 384 2]) (md:=mdT) hT (hi:=EN) Tryz.func173 rfl rfl (by decide +kernel) (by simp) ?_
 unfold iD at h0
 obtain ⟨r01,g0,h0⟩:=af h0
 simp(config:=cS)only[go_sem, *]
 have g0:=ctr g0
 refine ah g0 ?_
 obtain ⟨q05,l0,h0⟩:=af h0
 simp(config:=cS)only[go_sem, *]
 refine ak (m1:=.mk) (m2:=.mk) [.nf [3,4,6,7,12,13,14] [192,256,384,448,704,705]] (pK ties ((ties.length:Nat):Int) s.nodes s.ties s.horizon v1.now v1.times v1.values r01.now r01.values) l0 ?_ ?_
 ·simp(config:=cS)only[go_sem, *]
 ·have k0:=h0
  clear h0 l0
  intro _ s0 _ h0 gb0
  obtain ⟨v14_1,h704_1⟩:=s0
  unfold jo at h0
  try dsimp only at h0
  exact run⟩
attribute [go_sem] Tryz.ntmps335 Tryz.results335
instance k335 {t:GTie} {node:Int}:Ctr (jI t node) (fun (res:Bool)=>aj Tryz.prog 335 [.agg (GTie.enc t),.loc [.lit (.int .i64 node)]] [] (.lit (.bool res)) []):=⟨by
 intro res h0
 refine co (hi:=hi00) Tryz.func335 rfl rfl ?_
 unfold jI at h0
 exact run⟩
attribute [go_sem] Tryz.ntmps319 Tryz.results319
instance k319 {s:GShow} {node:Int}:Ctr (kd s node) (fun (res:Int)=>aj Tryz.prog 319 [.agg (GShow.encS s),.lit (.int .i64 node)] [] (.lit (.int .i64 res)) []):=⟨by
 intro res h0
 refine co (hi:=hi00) Tryz.func319 rfl rfl ?_
 unfold kd at h0
 obtain ⟨r01,g0,h0⟩:=af h0
 simp(config:=cS)only[go_sem, *]
 refine ah (mv (by exact fun _ _ hr=>by have q:=ctr hr;exact q) (by refine ⟨fun _=>?_,fun _=>?_⟩ <;> simp only [go_sem]) (fun _=>rfl) rfl g0) ?_
 exact run⟩
def oV (b:List GNode)(c:List GTie)(d:Int):(Int × (List Int))→St
 | (i,a)=>⟨[(1,.ptr 64 1 0 0),(3,.ref 255 1 0 a.length),(4,.lit (.int .i64 i))],[(64,1,.var [.sl (ab GNode.encS b),.sl (ab GTie.enc c),.lit (.int .i64 d)]),(255,1,.row true (ab eI a))],2⟩
attribute [go_sem] oV
attribute [go_sem] Tryz.ntmps293 Tryz.results293
instance k293 {s:GShow}:Ctr (kS s) (fun (res:List Int)=>aj Tryz.prog 293 [.agg (GShow.encS s)] [] (.ref 20000 1 0 res.length) [(20000,1,.row true (ab eI res))]):=⟨by
 intro res h0
 refine aE (ra:=[.home 2]) (md:=mdT) hT (hi:=hi00) Tryz.func293 rfl rfl (by decide +kernel) (by simp) ?_
 unfold kS at h0
 obtain ⟨q02,l0,h0⟩:=af h0
 simp(config:=cS)only[go_sem, *]
 refine ak (m1:=.mk) (m2:=.mk) [.home 3,.nf [1,3,4] [64,255]] (oV s.nodes s.ties s.horizon) l0 ?_ ?_
 ·simp(config:=cS)only[go_sem, *]
 ·have k0:=h0
  clear h0 l0
  intro _ s0 _ h0 gb0
  obtain ⟨i_1,out_1⟩:=s0
  unfold iE at h0
  try dsimp only at h0
  exact run⟩
def jD (c:Bool)(a:Nat)(b:List AV):(Int × Int × (List Int))→St
 | (e,f,d)=>⟨[(0,.ref 10000 0 0 d.length),(1,.fn a b),(5,.lit (.int .i64 e)),(6,.lit (.int .i64 f))],[(10000,0,.row c (ab eI d))],2⟩
attribute [go_sem] jD
attribute [go_sem] Tryz.ntmps166 Tryz.results166
theorem mg {v0:List Int}{v1:Int→Option Bool}{zb0:Bool}{f_v1:Nat}{k_v1:List AV}(hp_v1:∀ y0 r,v1 y0=some r→aj Tryz.prog f_v1 ([.lit (.int .i64 y0)]++k_v1) [] (.lit (.bool r)) [])(hc_v1:KC k_v1)(hm_v1:∀ a,mdT f_v1 a=⟨[],false⟩)(hk_v1:spf f_v1=false){res:List Int}(h:cA v0 v1=some res):aj Tryz.prog 166 [.ref 10000 0 0 v0.length,.fn f_v1 k_v1] [(10000,0,.row zb0 (ab eI v0))] (.ref 10000 0 0 res.length) [(10000,0,.row false (ab eI res))]:=by
 refine aE (ra:=[.home 4,.trim 4]) (md:=mdT) hT (hi:=hi00) Tryz.func166 rfl rfl (by decide +kernel) (by simp) ?_
 unfold cA at h
 obtain ⟨r01,g1,h⟩:=af h
 simp(config:=cS)only[go_sem,hc_v1.1,hc_v1.2,hm_v1,hk_v1]
 refine ah (mw hp_v1 hc_v1 hm_v1 hk_v1 g1) ?_
 obtain ⟨h2,h⟩|⟨h2,h⟩:=bq h
 ·cases h
  simp(config:=cS)only[go_sem,hc_v1.1,hc_v1.2,hm_v1,hk_v1,eqT h2]
 ·obtain ⟨q05,l3,h⟩:=af h
  simp(config:=cS)only[go_sem,hc_v1.1,hc_v1.2,hm_v1,hk_v1,eqF h2]
  refine ak (m1:=.mk) (m2:=.mk) [.nf [0,1,5,6] [10000]] (jD zb0 f_v1 k_v1) l3 ?_ ?_
  ·simp(config:=cS)only[go_sem,hc_v1.1,hc_v1.2,hm_v1,hk_v1,eqF h2]
  ·intro nb4 sb4 bb4 b4 gb4
   obtain ⟨v5_1,v6_1,v0_1⟩:=sb4
   unfold cJ at b4
   try dsimp only at b4
   obtain ⟨h5,b4⟩|⟨h5,b4⟩:=bq b4
   ·obtain ⟨x02,g6,b4⟩:=af b4
    obtain ⟨h7,h8,h9⟩:=dK g6
    obtain ⟨r03,g10,b4⟩:=af b4
    simp(config:=cS)only[go_sem,hc_v1.1,hc_v1.2,hm_v1,hk_v1,eqF h2,eqT h5,h7,h8,h9]
    refine ah (hp_v1 _ _ g10) ?_
    obtain ⟨h11,b4⟩|⟨h11,b4⟩:=bq b4
    ·cases b4
     simp(config:=cS)only[go_sem,hc_v1.1,hc_v1.2,hm_v1,hk_v1,eqF h2,eqT h5,h7,h8,h9,eZt h11]
     refine io gb4 ?_
     simp(config:=cS)only[go_sem,hc_v1.1,hc_v1.2,hm_v1,hk_v1,eqF h2,eqT h5,h7,h8,h9,eZt h11]
    ·obtain ⟨x04,g12,b4⟩:=af b4
     obtain ⟨h13,h14,h15⟩:=dK g12
     cases b4
     simp(config:=cS)only[go_sem,hc_v1.1,hc_v1.2,hm_v1,hk_v1,eqF h2,eqT h5,h7,h8,h9,eZf h11,h13,h14,h15]
     refine io gb4 ?_
     simp(config:=cS)only[go_sem,hc_v1.1,hc_v1.2,hm_v1,hk_v1,eqF h2,eqT h5,h7,h8,h9,eZf h11,h13,h14,h15]
   ·cases b4
    obtain rfl:=(bc gb4).symm
    try dsimp only at h
    obtain ⟨h17,h⟩:=kA h
    obtain ⟨h18,h⟩:=kA h
    obtain ⟨h19,h⟩:=kA h
    cases h
    simp(config:=cS)only[go_sem,hc_v1.1,hc_v1.2,hm_v1,hk_v1,eqF h2,eqF h5,eqT h17,eqT h18,eqT h19]
attribute [go_sem] Tryz.ntmps202 Tryz.results202
instance k202 {l:Int} {v:List Int}:Ctr (lE l v) (fun (res:Int)=>aj Tryz.prog 202 [.lit (.int .i64 l),.sl (ab eI v)] [] (.lit (.int .i64 res)) []):=⟨by
 intro res h0
 refine co (hi:=hi00) Tryz.func202 rfl rfl ?_
 unfold lE at h0
 exact run⟩
def mh (v a:List Int)(b:Int):(Int × Int)→St
 | (c,d)=>⟨[(1,.sl (ab eI v)),(5,.lit (.int .i64 c)),(16,.sl (ab eI a)),(17,.lit (.int .i64 b)),(18,.lit (.int .i64 d))],[],2⟩
attribute [go_sem] mh
attribute [go_sem] Tryz.ntmps129 Tryz.results129
instance k129 {l:List Int} {v:List Int}:Ctr (dE l v) (fun (res:Int)=>aj Tryz.prog 129 [.sl (ab eI l),.sl (ab eI v)] [] (.lit (.int .i64 res)) []):=⟨by
 intro res h0
 refine co (hi:=hi00) Tryz.func129 rfl rfl ?_
 unfold dE at h0
 obtain ⟨r01,g0,h0⟩:=af h0
 simp(config:=cS)only[go_sem, *]
 have g0:=ctr g0
 refine ah g0 ?_
 obtain ⟨_,h0⟩|⟨_,h0⟩:=itB h0
 ·obtain ⟨r02,g0,h0⟩:=af h0
  simp(config:=cS)only[go_sem, *]
  have g0:=ctr g0
  refine ah g0 ?_
  obtain ⟨_,h0⟩|⟨_,h0⟩:=itB h0
  ·obtain ⟨q05,l0,h0⟩:=af h0
   simp(config:=cS)only[go_sem, *]
   refine ak (m1:=.mk) (m2:=.mk) [.nf [1,5,16,17,18] []] (mh v l ((l.length:Nat):Int)) l0 ?_ ?_
   ·simp(config:=cS)only[go_sem, *]
   ·have k0:=h0
    clear h0 l0
    intro _ s0 _ h0 gb0
    obtain ⟨out_1,v18_1⟩:=s0
    unfold eP at h0
    try dsimp only at h0
    exact run
  ·exact run
 ·exact run⟩
@[go_sem] def hi261_1:DT:=.r2 0 10 .nil
def EO:Hint where
 acts:=fun _=>[]
 draws:=fun
  | 1=>⟨hi261_1,[[],[0],[],[0,1,2],[0,1,2,3],.range 5,[],[6],.range 8,.range 9],.range 10⟩
  | _=>⟨.nil,[],[]⟩
theorem Rs (i:Nat):EO.acts i=[]:=rfl
theorem Rt (i:Nat):EO.views i=none:=rfl
attribute [go_sem] Rs Rt Tryz.ntmps261 Tryz.results261
@[go_sem] theorem VN:(EO.draws 1).order=hi261_1:=rfl
instance k261 {s:GShow} {v1:GState} {node:Int}:Ctr (cD s v1 node) (fun (res:Int)=>aj Tryz.prog 261 [.agg (GShow.encS s),.agg (GState.encS v1),.lit (.int .i64 node)] [] (.lit (.int .i64 res)) []):=⟨by
 intro res h0
 refine co (hi:=EO) Tryz.func261 rfl rfl ?_
 unfold cD at h0
 exact run⟩
attribute [go_sem] Tryz.ntmps294 Tryz.results294
instance k294 {i:Int} {v1:GState} {s:GShow}:Ctr (jJ i v1 s) (fun (res:Bool)=>aj Tryz.prog 294 [.lit (.int .i64 i),.loc [.lit (.int .i64 v1.now),.sl (ab eI v1.times),.sl (ab eI v1.values)],.loc [.sl (ab GNode.encS s.nodes),.sl (ab GTie.enc s.ties),.lit (.int .i64 s.horizon)]] [] (.lit (.bool res)) []):=⟨by
 intro res h0
 refine co (hi:=hi00) Tryz.func294 rfl rfl ?_
 unfold jJ at h0
 exact run⟩
attribute [go_sem] Tryz.ntmps250 Tryz.results250
instance k250 {s:GShow} {v1:GState}:Ctr (ke s v1) (fun (res:List Int)=>aj Tryz.prog 250 [.agg (GShow.encS s),.agg (GState.encS v1)] [] (.ref 20000 1 0 res.length) [(20000,1,.row false (ab eI res))]):=⟨by
 intro res h0
 refine aE (ra:=[.home 4,.trim 4]) (md:=mdT) hT (hi:=hi00) Tryz.func250 rfl rfl (by decide +kernel) (by simp) ?_
 unfold ke at h0
 obtain ⟨r01,g0,h0⟩:=af h0
 simp(config:=cS)only[go_sem, *]
 have g0:=ctr g0
 refine ah g0 ?_
 obtain ⟨r02,g0,h0⟩:=af h0
 simp(config:=cS)only[go_sem, *]
 refine ah (mg (by exact fun _ _ hr=>by have q:=ctr hr;exact q) (by refine ⟨fun _=>?_,fun _=>?_⟩ <;> simp only [go_sem]) (fun _=>rfl) rfl g0) ?_
 exact run⟩
def mz (a:List Int):(Int × (List (List Int)))→St
 | (c,b)=>⟨[(5,.ref 640 1 0 a.length),(6,.ref 447 1 0 b.length),(7,.lit (.int .i64 c))],[(640,1,.row false (ab eI a)),(447,1,.row true (ab (eLO eI) b))],2⟩
attribute [go_sem] mz
attribute [go_sem] Tryz.ntmps174 Tryz.results174
instance k174 {s:GShow} {v1:GState}:Ctr (ed s v1) (fun (res:List (List Int))=>aj Tryz.prog 174 [.agg (GShow.encS s),.agg (GState.encS v1)] [] (.ref 20000 1 0 res.length) [(20000,1,.row true (ab (eLO eI) res))]):=⟨by
 intro res h0
 refine aE (ra:=[.home 4]) (md:=mdT) hT (hi:=hi00) Tryz.func174 rfl rfl (by decide +kernel) (by simp) ?_
 unfold ed at h0
 obtain ⟨r01,g0,h0⟩:=af h0
 simp(config:=cS)only[go_sem, *]
 have g0:=ctr g0
 refine ah g0 ?_
 obtain ⟨_,h0⟩:=ckN h0
 obtain ⟨q03,l0,h0⟩:=af h0
 simp(config:=cS)only[go_sem, *]
 refine ak (m1:=.mk) (m2:=.mk) [.home 6,.nf [5,6,7] [640,447]] (mz r01) l0 ?_ ?_
 ·simp(config:=cS)only[go_sem, *]
 ·have k0:=h0
  clear h0 l0
  intro _ s0 _ h0 gb0
  obtain ⟨set_1,out_1⟩:=s0
  unfold fD at h0
  try dsimp only at h0
  exact run⟩
def oh (h:List Int)(i:Int)(j:List GNode)(k:List GTie)(l e:Int)(f g:List Int)(d:Int)(b:List Int):(Int × (List Int) × (List Int))→St
 | (m,a,c)=>⟨[(3,.ptr 192 1 0 0),(4,.ptr 256 1 0 0),(6,.ptr 384 1 0 0),(8,.ptr 512 1 0 0),(9,.ref 639 1 0 a.length),(14,.sl (ab eI h)),(15,.lit (.int .i64 i)),(16,.lit (.int .i64 m))],[(192,1,.var [.sl (ab GNode.encS j),.sl (ab GTie.enc k),.lit (.int .i64 l)]),(256,1,.var [.lit (.int .i64 e),.sl (ab eI f),.sl (ab eI g)]),(384,1,.var [.lit (.int .i64 0),.lit (.slice none 0 0),.lit (.slice none 0 0)]),(512,1,.var [.lit (.int .i64 d),.ref 832 1 0 c.length,.ref 833 1 0 b.length]),(832,1,.row true (ab eI c)),(833,1,.row true (ab eI b)),(639,1,.row true (ab eI a))],2⟩
attribute [go_sem] oh
attribute [go_sem] Tryz.ntmps175 Tryz.results175
instance k175 {s:GShow} {v1:GState} {nodes:List Int}:Ctr (fV s v1 nodes) (fun (res:GState × (List Int))=>aj Tryz.prog 175 [.agg (GShow.encS s),.agg (GState.encS v1),.sl (ab eI nodes)] [] (.tup [.agg [.lit (.int .i64 res.1.now),.ref 20000 1 0 res.1.times.length,.ref 20001 1 0 res.1.values.length],.ref 20002 1 0 res.2.length]) [(20000,1,.row true (ab eI res.1.times)),(20001,1,.row true (ab eI res.1.values)),(20002,1,.row true (ab eI res.2))]):=⟨by
 intro res h0
 refine aE (ra:=[.homeCell 384 1,.homeCell 384 2,.home 7]) (md:=mdT) hT (hi:=hi00) Tryz.func175 rfl rfl (by decide +kernel) (by simp) ?_
 unfold fV at h0
 obtain ⟨r01,g0,h0⟩:=af h0
 simp(config:=cS)only[go_sem, *]
 have g0:=ctr g0
 refine ah g0 ?_
 obtain ⟨q06,l0,h0⟩:=af h0
 simp(config:=cS)only[go_sem, *]
 refine ak (m1:=.mk) (m2:=.mk) [.home 9,.nf [3,4,6,8,9,14,15,16] [192,256,384,512,832,833,639]] (oh nodes ((nodes.length:Nat):Int) s.nodes s.ties s.horizon v1.now v1.times v1.values r01.now r01.values) l0 ?_ ?_
 ·simp(config:=cS)only[go_sem, *]
 ·have k0:=h0
  clear h0 l0
  intro _ s0 _ h0 gb0
  obtain ⟨v16_1,props_1,h832_1⟩:=s0
  unfold gY at h0
  try dsimp only at h0
  obtain ⟨_,h0⟩|⟨_,h0⟩:=itP h0
  ·exact run
  ·cases h0
   obtain rfl:=(bc gb0).symm
   clear gb0
   have h0:=k0
   clear k0
   try dsimp only at h0
   obtain ⟨r05,g0,h0⟩:=af h0
   simp(config:=cS)only[go_sem, *]
   refine ah (qh g0) ?_
   exact run⟩
def nq (a e:List Int)(f d:Int)(b:List Int):(Int × (List Int))→St
 | (g,c)=>⟨[(2,.sl (ab eI a)),(6,.ptr 384 1 0 0),(7,.ptr 448 1 0 0),(12,.sl (ab eI e)),(13,.lit (.int .i64 f)),(14,.lit (.int .i64 g))],[(384,1,.var [.lit (.int .i64 0),.lit (.slice none 0 0),.lit (.slice none 0 0)]),(448,1,.var [.lit (.int .i64 d),.ref 704 1 0 b.length,.ref 705 1 0 c.length]),(704,1,.row true (ab eI b)),(705,1,.row true (ab eI c))],2⟩
attribute [go_sem] nq
@[go_sem] def hi177_5:DT:=.r2 0 10 .nil
def EP:Hint where
 acts:=fun _=>[]
 draws:=fun
  | 5=>⟨hi177_5,[[],[0],[],[2],[],[],[4,5],[4,5,6],.range 8,.range 9],.range 10⟩
  | _=>⟨.nil,[],[]⟩
theorem Ru (i:Nat):EP.acts i=[]:=rfl
theorem Rv (i:Nat):EP.views i=none:=rfl
attribute [go_sem] Ru Rv Tryz.ntmps177 Tryz.results177
@[go_sem] theorem VO:(EP.draws 5).order=hi177_5:=rfl
instance k177 {v0:GState} {props:List Int} {values:List Int}:Ctr (eR v0 props values) (fun (res:GState)=>aj Tryz.prog 177 [.agg (GState.encS v0),.sl (ab eI props),.sl (ab eI values)] [] (.agg [.lit (.int .i64 res.now),.ref 20000 1 0 res.times.length,.ref 20001 1 0 res.values.length]) [(20000,1,.row true (ab eI res.times)),(20001,1,.row true (ab eI res.values))]):=⟨by
 intro res h0
 refine aE (ra:=[.homeCell 384 1,.homeCell 384 2]) (md:=mdT) hT (hi:=EP) Tryz.func177 rfl rfl (by decide +kernel) (by simp) ?_
 unfold eR at h0
 obtain ⟨r01,g0,h0⟩:=af h0
 simp(config:=cS)only[go_sem, *]
 have g0:=ctr g0
 refine ah g0 ?_
 obtain ⟨q05,l0,h0⟩:=af h0
 simp(config:=cS)only[go_sem, *]
 refine ak (m1:=.mk) (m2:=.mk) [.nf [2,6,7,12,13,14] [384,448,704,705]] (nq values props ((props.length:Nat):Int) r01.now r01.times) l0 ?_ ?_
 ·simp(config:=cS)only[go_sem, *]
 ·have k0:=h0
  clear h0 l0
  intro _ s0 _ h0 gb0
  obtain ⟨v14_1,h705_1⟩:=s0
  unfold gx at h0
  try dsimp only at h0
  exact run⟩
def pL (g:List Int)(h e:Int)(b c d:List Int):(Int × (List Int) × (List Int))→St
 | (i,f,a)=>⟨[(6,.ptr 384 1 0 0),(9,.ptr 576 1 0 0),(10,.ref 3458 1 0 d.length),(11,.ref 767 1 0 f.length),(12,.ref 831 1 0 a.length),(58,.sl (ab eI g)),(59,.lit (.int .i64 h)),(60,.lit (.int .i64 i))],[(384,1,.var [.lit (.int .i64 0),.lit (.slice none 0 0),.lit (.slice none 0 0)]),(576,1,.var [.lit (.int .i64 e),.ref 3456 1 0 b.length,.ref 3457 1 0 c.length]),(3456,1,.row true (ab eI b)),(3457,1,.row true (ab eI c)),(3458,1,.row true (ab eI d)),(767,1,.row true (ab eI f)),(831,1,.row true (ab eI a))],2⟩
attribute [go_sem] pL
@[go_sem] def hi88_4:DT:=.i2 0 (.i2 1 (.i1 3 (.i1 4 (.i0 2 [3,4] (.i2 5 (.i2 6 .nil))))))
@[go_sem] def hi88_1:DT:=.r2 0 8 (.i1 9 (.i1 10 (.i0 8 [9,10] (.r2 11 9 .nil))))
def hi88:Hint where
 acts:=fun _=>[]
 draws:=fun
  | 1=>⟨hi88_1,[[],[0],[],[2],[0,1,2,3],.range 5,.range 6,.range 6,.range 8,.range 6,[0,1,2,3,4,5,9],.range 11,.range 12,.range 13,.range 14,.range 15,.range 16,.range 17,.range 18,.range 19],.range 20⟩
  | 4=>⟨hi88_4,[[],[],[0,1],[],[3],.range 5,.range 6],.range 7⟩
  | _=>⟨.nil,[],[]⟩
theorem TB (i:Nat):hi88.acts i=[]:=rfl
theorem TC (i:Nat):hi88.views i=none:=rfl
attribute [go_sem] TB TC Tryz.ntmps88 Tryz.results88
@[go_sem] theorem WK:(hi88.draws 1).order=hi88_1:=rfl
@[go_sem] theorem WL:(hi88.draws 4).order=hi88_4:=rfl
instance k88 {s:GShow} {v1:GState} {e:an}:Ctr (lF s v1 e) (fun (res:GState × Bool)=>aj Tryz.prog 88 [.agg (GShow.encS s),.agg (GState.encS v1),.agg (an.encS e)] [] (.tup [.agg [.lit (.int .i64 res.1.now),.ref 20000 1 0 res.1.times.length,.ref 20001 1 0 res.1.values.length],.lit (.bool res.2)]) [(20000,1,.row true (ab eI res.1.times)),(20001,1,.row true (ab eI res.1.values))]):=⟨by
 intro res h0
 refine aE (ra:=[.homeCell 384 1,.homeCell 384 2]) (md:=mdT) hT (hi:=hi88) Tryz.func88 rfl rfl (by decide +kernel) (by simp) ?_
 unfold lF at h0
 obtain ⟨_,h0⟩|⟨_,h0⟩:=itP h0
 ·obtain ⟨r01,g0,h0⟩:=af h0
  simp(config:=cS)only[go_sem, *]
  have g0:=ctr g0
  refine ah g0 ?_
  obtain ⟨r02,g0,h0⟩:=af h0
  simp(config:=cS)only[go_sem, *]
  have g0:=ctr g0
  refine ah g0 ?_
  obtain ⟨_,h0⟩|⟨_,h0⟩:=itB h0
  ·obtain ⟨r03,g0,h0⟩:=af h0
   simp(config:=cS)only[go_sem, *]
   have g0:=ctr g0
   refine ah g0 ?_
   obtain ⟨_,h0⟩|⟨_,h0⟩:=itB h0
   ·obtain ⟨r04,g0,h0⟩:=af h0
    simp(config:=cS)only[go_sem, *]
    have g0:=ctr g0
    refine ah g0 ?_
    obtain ⟨r05,g0,h0⟩:=af h0
    simp(config:=cS)only[go_sem, *]
    have g0:=ctr g0
    refine ah g0 ?_
    obtain ⟨r06,g0,h0⟩:=af h0
    simp(config:=cS)only[go_sem, *]
    have g0:=ctr g0
    refine ah g0 ?_
    obtain ⟨_,h0⟩|⟨_,h0⟩:=itB h0
    ·obtain ⟨r07,g0,h0⟩:=af h0
     simp(config:=cS)only[go_sem, *]
     have g0:=ctr g0
     refine ah g0 ?_
     obtain ⟨q13,l0,h0⟩:=af h0
     simp(config:=cS)only[go_sem, *]
     refine ak (m1:=.mk) (m2:=.mk) [.home 11,.home 12,.nf [6,9,10,11,12,58,59,60] [384,576,3456,3457,3458,767,831]] (pL e.values ((e.values.length:Nat):Int) r07.1.now r07.1.times r07.1.values r07.2) l0 ?_ ?_
     ·simp(config:=cS)only[go_sem, *]
     ·have k0:=h0
      clear h0 l0
      intro _ s0 _ h0 gb0
      obtain ⟨v60_1,seen_1,values_1⟩:=s0
      unfold jp at h0
      try dsimp only at h0
      exact run
    ·exact run
   ·exact run
  ·exact run
 ·exact run⟩
def mA (d:List an)(e:Int)(f:List GNode)(g:List GTie)(h:Int):(Int × Int × (List Int) × (List Int))→St
 | (i,c,a,b)=>⟨[(2,.ptr 128 1 0 0),(4,.ptr 256 1 0 0),(6,.ptr 384 1 0 0),(17,.sl (ab an.encS d)),(18,.lit (.int .i64 e)),(19,.lit (.int .i64 i))],[(128,1,.var [.sl (ab GNode.encS f),.sl (ab GTie.enc g),.lit (.int .i64 h)]),(256,1,.var [.lit (.int .i64 0),.lit (.slice none 0 0),.lit (.slice none 0 0)]),(384,1,.var [.lit (.int .i64 c),.ref 1024 1 0 a.length,.ref 1025 1 0 b.length]),(1024,1,.row true (ab eI a)),(1025,1,.row true (ab eI b))],2⟩
attribute [go_sem] mA
attribute [go_sem] Tryz.ntmps28 Tryz.results28
instance k28 {s:GShow} {log:List an}:Ctr (iF s log) (fun (res:GState × Bool)=>aj Tryz.prog 28 [.agg (GShow.encS s),.sl (ab an.encS log)] [] (.tup [.agg [.lit (.int .i64 res.1.now),.ref 20000 1 0 res.1.times.length,.ref 20001 1 0 res.1.values.length],.lit (.bool res.2)]) [(20000,1,.row true (ab eI res.1.times)),(20001,1,.row true (ab eI res.1.values))]):=⟨by
 intro res h0
 refine aE (ra:=[.homeCell 256 1,.homeCell 256 2]) (md:=mdT) hT (hi:=hi00) Tryz.func28 rfl rfl (by decide +kernel) (by simp) ?_
 unfold iF at h0
 obtain ⟨r01,g0,h0⟩:=af h0
 simp(config:=cS)only[go_sem, *]
 have g0:=ctr g0
 refine ah g0 ?_
 obtain ⟨_,h0⟩|⟨_,h0⟩:=itB h0
 ·obtain ⟨r02,g0,h0⟩:=af h0
  simp(config:=cS)only[go_sem, *]
  have g0:=ctr g0
  refine ah g0 ?_
  obtain ⟨q05,l0,h0⟩:=af h0
  simp(config:=cS)only[go_sem, *]
  refine ak (m1:=.mk) (m2:=.mk) [.nfp [2,4,6,17,18,19] [(128,128),(256,256),(384,384),(1728,1024),(1024,1024),(1729,1025),(1025,1025)] []] (mA log ((log.length:Nat):Int) s.nodes s.ties s.horizon) l0 ?_ ?_
  ·simp(config:=cS)only[go_sem, *]
  ·have k0:=h0
   clear h0 l0
   intro _ s0 _ h0 gb0
   obtain ⟨v19_1,v6_0_1,h1024_1,h1025_1⟩:=s0
   unfold fE at h0
   try dsimp only at h0
   exact run
 ·exact run⟩
attribute [go_sem] Tryz.ntmps30 Tryz.results30
instance k30 {a:GState} {b:GState}:Ctr (gZ a b) (fun (res:Bool)=>aj Tryz.prog 30 [.agg (GState.encS a),.agg (GState.encS b)] [] (.lit (.bool res)) []):=⟨by
 intro res h0
 refine co (hi:=hi00) Tryz.func30 rfl rfl ?_
 unfold gZ at h0
 exact run⟩
attribute [go_sem] Tryz.ntmps75 Tryz.results75
instance k75 {d:GDesk}:Ctr (iX d) (fun (res:Bool)=>aj Tryz.prog 75 [.agg (GDesk.encS d)] [] (.lit (.bool res)) []):=⟨by
 intro res h0
 refine co (hi:=hi00) Tryz.func75 rfl rfl ?_
 unfold iX at h0
 exact run⟩
@[go_sem] def hi168_1:DT:=.i1 0 (.i1 1 (.i1 2 (.i1 3 (.i1 4 (.i1 5 (.i2 6 (.i1 7 (.i1 8 (.i1 9 (.i1 10 (.i1 11 (.i2 12 (.i1 13 (.i1 14 (.i2 15 (.i2 16 (.i0 17 [0,1,2,3,4,5,7,8,9,10,11,13,14] (.r2 18 4 .nil))))))))))))))))))
def EQ:Hint where
 acts:=fun _=>[]
 draws:=fun
  | 1=>⟨hi168_1,[[],[0],[],[2],[],[4],[],[4,5,6],[4,5,6,7],[4,5,6,7,8],[2,3,4,5,6,7,8,9],[2,3,4,5,6,7,8,9,10],.range 12,[],[13],[],[],[15,16],[13,14,15,16,17],[13,14,15,16,17,18],.range 20,.range 21],.range 22⟩
  | _=>⟨.nil,[],[]⟩
theorem Rw (i:Nat):EQ.acts i=[]:=rfl
theorem Ry (i:Nat):EQ.views i=none:=rfl
attribute [go_sem] Rw Ry Tryz.ntmps168 Tryz.results168
@[go_sem] theorem VP:(EQ.draws 1).order=hi168_1:=rfl
instance k168 {i:Int} {v1:GState} {s:GShow} {v3:GChoice} {free:List Int}:Ctr (iQ i v1 s v3 free) (fun (res:Bool)=>aj Tryz.prog 168 [.lit (.int .i64 i),.loc [.lit (.int .i64 v1.now),.sl (ab eI v1.times),.sl (ab eI v1.values)],.loc [.sl (ab GNode.encS s.nodes),.sl (ab GTie.enc s.ties),.lit (.int .i64 s.horizon)],.loc [.sl (ab eI v3.lengths),.sl (ab eI v3.values)],.loc [.sl (ab eI free)]] [] (.lit (.bool res)) []):=⟨by
 intro res h0
 refine co (hi:=EQ) Tryz.func168 rfl rfl ?_
 unfold iQ at h0
 exact run⟩
attribute [go_sem] Tryz.ntmps87 Tryz.results87
instance k87 {s:GShow} {v1:GState} {v2:GChoice}:Ctr (iG s v1 v2) (fun (res:List Int)=>aj Tryz.prog 87 [.agg (GShow.encS s),.agg (GState.encS v1),.agg [.sl (ab eI v2.lengths),.sl (ab eI v2.values)]] [] (.ref 20000 1 0 res.length) [(20000,1,.row false (ab eI res))]):=⟨by
 intro res h0
 refine aE (ra:=[.home 6,.trim 6]) (md:=mdT) hT (hi:=hi00) Tryz.func87 rfl rfl (by decide +kernel) (by simp) ?_
 unfold iG at h0
 obtain ⟨r01,g0,h0⟩:=af h0
 simp(config:=cS)only[go_sem, *]
 have g0:=ctr g0
 refine ah g0 ?_
 obtain ⟨_,h0⟩|⟨_,h0⟩:=itB h0
 ·obtain ⟨r02,g0,h0⟩:=af h0
  simp(config:=cS)only[go_sem, *]
  have g0:=ctr g0
  refine ah g0 ?_
  obtain ⟨_,h0⟩|⟨_,h0⟩:=itB h0
  ·obtain ⟨r03,g0,h0⟩:=af h0
   simp(config:=cS)only[go_sem, *]
   have g0:=ctr g0
   refine ah g0 ?_
   obtain ⟨r04,g0,h0⟩:=af h0
   simp(config:=cS)only[go_sem, *]
   have g0:=ctr g0
   refine ah g0 ?_
   obtain ⟨r05,g0,h0⟩:=af h0
   simp(config:=cS)only[go_sem, *]
   refine ah (mg (by exact fun _ _ hr=>by have q:=ctr hr;exact q) (by refine ⟨fun _=>?_,fun _=>?_⟩ <;> simp only [go_sem]) (fun _=>rfl) rfl g0) ?_
   exact run
  ·exact run
 ·exact run⟩
attribute [go_sem] Tryz.ntmps240 Tryz.results240
instance k240 {v:Int}:Ctr (fF v) (fun (res:Bool)=>aj Tryz.prog 240 [.lit (.int .i64 v)] [] (.lit (.bool res)) []):=⟨by
 intro res h0
 refine co (hi:=hi00) Tryz.func240 rfl rfl ?_
 unfold fF at h0
 exact run⟩
@[go_sem] def hi260_1:DT:=.r2 0 14 .nil
def ER:Hint where
 acts:=fun _=>[]
 draws:=fun
  | 1=>⟨hi260_1,[[],[0],[],[2],[0,1,2,3],.range 5,[],[6],[],[8],[6,7,8,9],[6,7,8,9,10],.range 6,.range 13],[0,1,2,3,4,5,7,8,9,10,11,12,6,13]⟩
  | _=>⟨.nil,[],[]⟩
theorem Rz (i:Nat):ER.acts i=[]:=rfl
theorem RA (i:Nat):ER.views i=none:=rfl
attribute [go_sem] Rz RA Tryz.ntmps260 Tryz.results260
@[go_sem] theorem VQ:(ER.draws 1).order=hi260_1:=rfl
instance k260 {s:GShow} {v1:GState} {t:GTie}:Ctr (gy s v1 t) (fun (res:Bool)=>aj Tryz.prog 260 [.agg (GShow.encS s),.agg (GState.encS v1),.agg (GTie.enc t)] [] (.lit (.bool res)) []):=⟨by
 intro res h0
 refine co (hi:=ER) Tryz.func260 rfl rfl ?_
 unfold gy at h0
 exact run⟩
attribute [go_sem] Tryz.ntmps259 Tryz.results259
instance k259 {t:GTie} {s:GShow} {v2:GState}:Ctr (jq t s v2) (fun (res:Bool)=>aj Tryz.prog 259 [.agg (GTie.enc t),.loc [.sl (ab GNode.encS s.nodes),.sl (ab GTie.enc s.ties),.lit (.int .i64 s.horizon)],.loc [.lit (.int .i64 v2.now),.sl (ab eI v2.times),.sl (ab eI v2.values)]] [] (.lit (.bool res)) []):=⟨by
 intro res h0
 refine co (hi:=hi00) Tryz.func259 rfl rfl ?_
 unfold jq at h0
 exact run⟩
def ol (c:List Int)(h:Int)(d:List GNode)(e:List GTie)(f a:Int)(b:List Int)(g:Int):St:=⟨[(2,.ptr 128 1 0 0),(3,.ptr 192 1 0 0),(8,.sl (ab eI c)),(9,.lit (.int .i64 h)),(10,.lit (.int .i64 g))],[(128,1,.var [.sl (ab GNode.encS d),.sl (ab GTie.enc e),.lit (.int .i64 f)]),(192,1,.var [.lit (.int .i64 a),.sl (ab eI c),.sl (ab eI b)])],2⟩
attribute [go_sem] ol
attribute [go_sem] Tryz.ntmps190 Tryz.results190
instance k190 {s:GShow} {v1:GState}:Ctr (eC s v1) (fun (res:Bool)=>aj Tryz.prog 190 [.agg (GShow.encS s),.agg (GState.encS v1)] [] (.lit (.bool res)) []):=⟨by
 intro res h0
 refine co (hi:=hi00) Tryz.func190 rfl rfl ?_
 unfold eC at h0
 obtain ⟨q03,l0,h0⟩:=af h0
 simp(config:=cS)only[go_sem, *]
 refine ak (m1:=.mk) (m2:=.mk) [.nf [2,3,8,9,10] [128,192]] (ol v1.times ((v1.times.length:Nat):Int) s.nodes s.ties s.horizon v1.now v1.values) l0 ?_ ?_
 ·simp(config:=cS)only[go_sem, *]
 ·have k0:=h0
  clear h0 l0
  intro _ v10_1 _ h0 gb0
  unfold fj at h0
  try dsimp only at h0
  exact run⟩
attribute [go_sem] Tryz.ntmps189 Tryz.results189
instance k189 {s:GShow} {v1:GState}:Ctr (eU s v1) (fun (res:Bool)=>aj Tryz.prog 189 [.agg (GShow.encS s),.agg (GState.encS v1)] [] (.lit (.bool res)) []):=⟨by
 intro res h0
 refine co (hi:=hi00) Tryz.func189 rfl rfl ?_
 unfold eU at h0
 obtain ⟨r01,g0,h0⟩:=af h0
 simp(config:=cS)only[go_sem, *]
 refine ah (ls (by exact fun _ _ hr=>by have q:=ctr hr;exact q) (by refine ⟨fun _=>?_,fun _=>?_⟩ <;> simp only [go_sem]) (fun _=>rfl) rfl g0) ?_
 exact run⟩
attribute [go_sem] Tryz.ntmps96 Tryz.results96
instance k96 {s:GShow}:Ctr (iu s) (fun (res:GShow × (List (ByteArray × Bool)))=>aj Tryz.prog 96 [.agg (GShow.encS s)] [] (.ptr 20000 1 0 0) [(20000,1,.var [.sl (ab GNode.encS res.1.nodes),.sl (ab GTie.enc res.1.ties),.lit (.int .i64 res.1.horizon),.mp 20001 1]),(20001,1,.map (eM res.2))]):=⟨by
 intro res h0
 refine co (hi:=hi00) Tryz.func96 rfl rfl ?_
 unfold iu at h0
 exact run⟩
def qW (a:List Int)(e c:Int)(d:List Int):(Int × (List Int))→St
 | (f,b)=>⟨[(1,.ptr 64 1 0 0),(3,.ref 704 1 0 b.length),(13,.sl (ab eI a)),(14,.lit (.int .i64 e)),(15,.lit (.int .i64 f))],[(64,1,.var [.lit (.int .i64 c),.sl (ab eI a),.sl (ab eI d)]),(704,1,.row true (ab (eK .u8) b))],2⟩
attribute [go_sem] qW
def qX (b:List Int)(c:Int):(Int × (List Int))→St
 | (d,a)=>⟨[(3,.ref 704 1 0 a.length),(27,.sl (ab eI b)),(28,.lit (.int .i64 c)),(29,.lit (.int .i64 d))],[(704,1,.row true (ab (eK .u8) a))],2⟩
attribute [go_sem] qX
attribute [go_sem] Tryz.ntmps191 Tryz.results191
instance k191 {v0:GState}:Ctr (oz v0) (fun (res:ByteArray)=>aj Tryz.prog 191 [.agg (GState.encS v0)] [] (.lit (.string res)) []):=⟨by
 intro res h0
 refine co (hi:=hi00) Tryz.func191 rfl rfl ?_
 unfold oz at h0
 obtain ⟨q04,l0,h0⟩:=af h0
 simp(config:=cS)only[go_sem, *]
 refine ak (m1:=.mk) (m2:=.mk) [.nf [1,3,13,14,15] [64,704]] (qW v0.times ((v0.times.length:Nat):Int) v0.now v0.values) l0 ?_ ?_
 ·simp(config:=cS)only[go_sem, *]
 ·have k0:=h0
  clear h0 l0
  intro _ s0 _ h0 gb0
  obtain ⟨v15_1,out_1⟩:=s0
  unfold kT at h0
  try dsimp only at h0
  obtain ⟨_,h0⟩|⟨_,h0⟩:=itP h0
  ·exact run
  ·cases h0
   obtain rfl:=(bc gb0).symm
   clear gb0
   have h0:=k0
   clear k0
   try dsimp only at h0
   obtain ⟨q03,l0,h0⟩:=af h0
   simp(config:=cS)only[go_sem, *]
   refine ak (m1:=.mk) (m2:=.mk) [.nf [3,27,28,29] [704]] (qX v0.values ((v0.values.length:Nat):Int)) l0 ?_ ?_
   ·simp(config:=cS)only[go_sem, *]
   ·have k0:=h0
    clear h0 l0
    intro _ s0 _ h0 gb0
    obtain ⟨v29_2,out_2⟩:=s0
    unfold kU at h0
    try dsimp only at h0
    exact run⟩
def ku (a:List Int)(b c:Int):St:=⟨[(0,.sl (ab eI a)),(9,.sl (ab eI a)),(10,.lit (.int .i64 b)),(11,.lit (.int .i64 c))],[],2⟩
attribute [go_sem] ku
def kv (b:List Int)(n d:Int)(c:List (List Int)):(Int × (List Int))→St
 | (e,a)=>⟨[(0,.sl (ab eI b)),(5,.ref 383 1 0 c.length),(6,.lit (.int .i64 n)),(7,.ref 511 1 0 a.length),(44,.lit (.int .i64 d)),(45,.lit (.int .i64 e))],[(383,1,.row true (ab (eLO eI) c)),(511,1,.row true (ab eI a))],2⟩
attribute [go_sem] kv
def kw (a:List Int):(Int × (List (List Int)))→St
 | (n,b)=>⟨[(0,.sl (ab eI a)),(5,.ref 383 1 0 b.length),(6,.lit (.int .i64 n))],[(383,1,.row true (ab (eLO eI) b))],2⟩
attribute [go_sem] kw
attribute [go_sem] Tryz.ntmps288 Tryz.results288
instance k288 {props:List Int}:Ctr (eD props) (fun (res:List (List Int))=>aj Tryz.prog 288 [.sl (ab eI props)] [] (.ref 20000 1 0 res.length) [(20000,1,.row true (ab (eLO eI) res))]):=⟨by
 intro res h0
 refine aE (ra:=[.home 2]) (md:=mdT) hT (hi:=hi00) Tryz.func288 rfl rfl (by decide +kernel) (by simp) ?_
 unfold eD at h0
 obtain ⟨q05,l0,h0⟩:=af h0
 simp(config:=cS)only[go_sem, *]
 refine ak (m1:=.mk) (m2:=.mk) [.nf [0,9,10,11] []] (ku props ((props.length:Nat):Int)) l0 ?_ ?_
 ·simp(config:=cS)only[go_sem, *]
 ·have k0:=h0
  clear h0 l0
  intro _ v11_1 _ h0 gb0
  unfold dl at h0
  try dsimp only at h0
  obtain ⟨_,h0⟩|⟨_,h0⟩:=itP h0
  ·exact run
  ·cases h0
   obtain rfl:=(bc gb0).symm
   clear gb0
   have h0:=k0
   clear k0
   try dsimp only at h0
   obtain ⟨q04,l0,h0⟩:=af h0
   simp(config:=cS)only[go_sem, *]
   refine ak (m1:=.mk) (m2:=.mk) [.home 5,.nf [0,5,6] [383]] (kw props) l0 ?_ ?_
   ·simp(config:=cS)only[go_sem, *]
   ·have k0:=h0
    clear h0 l0
    intro _ s0 _ h0 gb0
    obtain ⟨n_2,out_2⟩:=s0
    unfold dn at h0
    try dsimp only at h0
    obtain ⟨_,h0⟩:=ckN h0
    obtain ⟨_,h0⟩|⟨_,h0⟩:=itP h0
    ·obtain ⟨q03,l0,h0⟩:=af h0
     simp(config:=cS)only[go_sem, *]
     refine ak (m1:=.mk) (m2:=.mk) [.home 7,.nf [0,5,6,7,44,45] [383,511]] (kv props n_2 ((props.length:Nat):Int) out_2) l0 ?_ ?_
     ·simp(config:=cS)only[go_sem, *]
     ·have k0:=h0
      clear h0 l0
      intro _ s0 _ h0 gb0
      obtain ⟨v45_3,values_3⟩:=s0
      unfold dm at h0
      try dsimp only at h0
      exact run
    ·exact run⟩
def iy (g d:Int)(a b c:List Int)(f:List (List Int))(h:List GNode)(i:List GTie)(j:Int):(Int × (List (ByteArray × Bool)))→St
 | (k,e)=>⟨[(0,.ptr 10000 0 0 0),(7,.ptr 448 1 0 0),(8,.ref 1154 1 0 c.length),(22,.ref 1408 1 0 f.length),(23,.lit (.int .i64 g)),(24,.lit (.int .i64 k))],[(10000,0,.var [.sl (ab GNode.encS h),.sl (ab GTie.enc i),.lit (.int .i64 j),.mp 10001 0]),(10001,0,.map (eM e)),(448,1,.var [.lit (.int .i64 d),.ref 1152 1 0 a.length,.ref 1153 1 0 b.length]),(1152,1,.row true (ab eI a)),(1153,1,.row true (ab eI b)),(1154,1,.row true (ab eI c)),(1408,1,.tree (ab (eLS eI) f))],2⟩
attribute [go_sem] iy
@[go_sem] def hi242_1:DT:=.i2 0 (.i1 1 (.i1 2 (.i1 3 (.i1 4 (.i2 5 (.fork (.i2 6 (.i2 7 (.i2 8 (.i2 9 (.i0 10 [1,2,3,4] (.i2 11 (.i2 12 .nil))))))) (.i0 10 [1,2,3,4] (.i2 6 (.i2 7 (.i2 8 (.i2 9 (.i2 11 (.i2 12 .nil)))))))))))))
def ES:Hint where
 acts:=fun _=>[]
 draws:=fun
  | 1=>⟨hi242_1,[[],[0],[0,1],[0,1,2],[],[],.range 6,.range 7,.range 8,.range 8,[],[0,1,2,3,4,5,6,7,8,10],.range 12],[0,1,2,3,4,5,6,7,8,11,9,10,12]⟩
  | _=>⟨.nil,[],[]⟩
@[go_sem] theorem WM (i:Nat):ES.acts i=[]:=rfl
theorem RB (i:Nat):ES.views i=none:=rfl
attribute [go_sem] RB Tryz.ntmps242 Tryz.results242
@[go_sem] theorem VR:(ES.draws 1).order=hi242_1:=rfl
theorem om {rec:GShow→(List (ByteArray × Bool))→GState→Option (Bool × (List (ByteArray × Bool)))}(hrec:∀ {g_s:GShow} {g_known:List (ByteArray × Bool)} {v1:GState} {res:Bool × (List (ByteArray × Bool))},rec g_s g_known v1=some res→aj Tryz.prog 97 [.ptr 10000 0 0 0,.agg (GState.encS v1)] [(10000,0,.var [.sl (ab GNode.encS g_s.nodes),.sl (ab GTie.enc g_s.ties),.lit (.int .i64 g_s.horizon),.mp 10001 0]),(10001,0,.map (eM g_known))] (.lit (.bool res.1)) [(10000,0,.var [.sl (ab GNode.encS g_s.nodes),.sl (ab GTie.enc g_s.ties),.lit (.int .i64 g_s.horizon),.mp 10001 0]),(10001,0,.map (eM res.2))]){g_s:GShow}{g_known:List (ByteArray × Bool)}{v1:GState}{nodes:List Int}{res:Bool × (List (ByteArray × Bool))}(h:dz rec g_s g_known v1 nodes=some res):aj Tryz.prog 242 [.ptr 10000 0 0 0,.agg (GState.encS v1),.sl (ab eI nodes)] [(10000,0,.var [.sl (ab GNode.encS g_s.nodes),.sl (ab GTie.enc g_s.ties),.lit (.int .i64 g_s.horizon),.mp 10001 0]),(10001,0,.map (eM g_known))] (.lit (.bool res.1)) [(10000,0,.var [.sl (ab GNode.encS g_s.nodes),.sl (ab GTie.enc g_s.ties),.lit (.int .i64 g_s.horizon),.mp 10001 0]),(10001,0,.map (eM res.2))]:=by
 refine co (hi:=ES) Tryz.func242 rfl rfl ?_
 unfold dz at h
 try simp(config:=cS)only[go_sem]
 refine dR ?_ ?_
 ·obtain ⟨r01,g1,h⟩:=af h
  simp(config:=cS)only[go_sem]
  have g1:=ctr g1
  refine ah g1 ?_
  obtain ⟨r02,g2,h⟩:=af h
  simp(config:=cS)only[go_sem]
  have g2:=ctr g2
  refine ah g2 ?_
  obtain ⟨q06,l3,h⟩:=af h
  simp(config:=cS)only[go_sem]
  refine ak (m1:=.mk) (m2:=.mk) [.freeze [1408],.nf [0,7,8,22,23,24] [10000,10001,448,1152,1153,1154,1408]] (iy ((r02.length:Nat):Int) r01.1.now r01.1.times r01.1.values r01.2 r02 g_s.nodes g_s.ties g_s.horizon) l3 ?_ ?_
  ·simp(config:=cS)only[go_sem]
  ·intro nb4 sb4 bb4 b4 gb4
   obtain ⟨v24_1,h10001_1⟩:=sb4
   unfold db at b4
   try dsimp only at b4
   obtain ⟨h5,b4⟩|⟨h5,b4⟩:=bq b4
   ·obtain ⟨x03,g6,b4⟩:=af b4
    obtain ⟨h7,h8,h9⟩:=dK g6
    obtain ⟨r04,g10,b4⟩:=af b4
    simp(config:=cS)only[go_sem,eqT h5,h7,h8,h9]
    have g10:=ctr g10
    refine ah g10 ?_
    obtain ⟨r05,g11,b4⟩:=af b4
    simp(config:=cS)only[go_sem,eqT h5,h7,h8,h9]
    refine ah (hrec g11) ?_
    obtain ⟨h12,b4⟩|⟨h12,b4⟩:=bq b4
    ·cases b4
     simp(config:=cS)only[go_sem,eqT h5,h7,h8,h9,eZt h12]
     refine io gb4 ?_
     simp(config:=cS)only[go_sem,eqT h5,h7,h8,h9,eZt h12]
    ·cases b4
     obtain rfl:=(bc gb4).symm
     try dsimp only at h
     cases h
     simp(config:=cS)only[go_sem,eqT h5,h7,h8,h9,eZf h12]
   ·cases b4
    obtain rfl:=(bc gb4).symm
    try dsimp only at h
    cases h
    simp(config:=cS)only[go_sem,eqF h5]
 ·obtain ⟨r07,g15,h⟩:=af h
  simp(config:=cS)only[go_sem]
  have g15:=ctr g15
  refine ah g15 ?_
  obtain ⟨r08,g16,h⟩:=af h
  simp(config:=cS)only[go_sem]
  have g16:=ctr g16
  refine ah g16 ?_
  obtain ⟨q12,l17,h⟩:=af h
  simp(config:=cS)only[go_sem]
  refine ak (m1:=.mk) (m2:=.mk) [.freeze [1408],.nf [0,7,8,22,23,24] [10000,10001,448,1152,1153,1154,1408]] (iy ((r08.length:Nat):Int) r07.1.now r07.1.times r07.1.values r07.2 r08 g_s.nodes g_s.ties g_s.horizon) l17 ?_ ?_
  ·simp(config:=cS)only[go_sem]
  ·intro nb18 sb18 bb18 b18 gb18
   obtain ⟨v24_2,h10001_2⟩:=sb18
   unfold db at b18
   try dsimp only at b18
   obtain ⟨h19,b18⟩|⟨h19,b18⟩:=bq b18
   ·obtain ⟨x09,g20,b18⟩:=af b18
    obtain ⟨h21,h22,h23⟩:=dK g20
    obtain ⟨r10,g24,b18⟩:=af b18
    simp(config:=cS)only[go_sem,eqT h19,h21,h22,h23]
    have g24:=ctr g24
    refine ah g24 ?_
    obtain ⟨r11,g25,b18⟩:=af b18
    simp(config:=cS)only[go_sem,eqT h19,h21,h22,h23]
    refine ah (hrec g25) ?_
    obtain ⟨h26,b18⟩|⟨h26,b18⟩:=bq b18
    ·cases b18
     simp(config:=cS)only[go_sem,eqT h19,h21,h22,h23,eZt h26]
     refine io gb18 ?_
     simp(config:=cS)only[go_sem,eqT h19,h21,h22,h23,eZt h26]
    ·cases b18
     obtain rfl:=(bc gb18).symm
     try dsimp only at h
     cases h
     simp(config:=cS)only[go_sem,eqT h19,h21,h22,h23,eZf h26]
   ·cases b18
    obtain rfl:=(bc gb18).symm
    try dsimp only at h
    cases h
    simp(config:=cS)only[go_sem,eqF h19]
def mi (f c:Int)(d e:List Int)(b:List (List Int))(g:List GNode)(h:List GTie)(i:Int):(Int × (List (ByteArray × Bool)))→St
 | (j,a)=>⟨[(0,.ptr 10000 0 0 0),(3,.ptr 192 1 0 0),(13,.ref 832 1 0 b.length),(14,.lit (.int .i64 f)),(15,.lit (.int .i64 j))],[(10000,0,.var [.sl (ab GNode.encS g),.sl (ab GTie.enc h),.lit (.int .i64 i),.mp 10001 0]),(10001,0,.map (eM a)),(192,1,.var [.lit (.int .i64 c),.sl (ab eI d),.sl (ab eI e)]),(832,1,.tree (ab (eLS eI) b))],2⟩
attribute [go_sem] mi
@[go_sem] def hi163_1:DT:=.r2 0 5 (.i2 7 (.i2 5 (.i2 6 .nil)))
def ET:Hint where
 acts:=fun _=>[]
 draws:=fun
  | 1=>⟨hi163_1,[[],[0],[0,1],[0,1,2],[],.range 5,.range 6,[]],.range 8⟩
  | _=>⟨.nil,[],[]⟩
@[go_sem] theorem WN (i:Nat):ET.acts i=[]:=rfl
theorem RC (i:Nat):ET.views i=none:=rfl
attribute [go_sem] RC Tryz.ntmps163 Tryz.results163
@[go_sem] theorem VS:(ET.draws 1).order=hi163_1:=rfl
theorem oW {rec:GShow→(List (ByteArray × Bool))→GState→Option (Bool × (List (ByteArray × Bool)))}(hrec:∀ {g_s:GShow} {g_known:List (ByteArray × Bool)} {v1:GState} {res:Bool × (List (ByteArray × Bool))},rec g_s g_known v1=some res→aj Tryz.prog 97 [.ptr 10000 0 0 0,.agg (GState.encS v1)] [(10000,0,.var [.sl (ab GNode.encS g_s.nodes),.sl (ab GTie.enc g_s.ties),.lit (.int .i64 g_s.horizon),.mp 10001 0]),(10001,0,.map (eM g_known))] (.lit (.bool res.1)) [(10000,0,.var [.sl (ab GNode.encS g_s.nodes),.sl (ab GTie.enc g_s.ties),.lit (.int .i64 g_s.horizon),.mp 10001 0]),(10001,0,.map (eM res.2))]){g_s:GShow}{g_known:List (ByteArray × Bool)}{v1:GState}{res:(List Int) × Bool × (List (ByteArray × Bool))}(h:dP rec g_s g_known v1=some res):aj Tryz.prog 163 [.ptr 10000 0 0 0,.agg (GState.encS v1)] [(10000,0,.var [.sl (ab GNode.encS g_s.nodes),.sl (ab GTie.enc g_s.ties),.lit (.int .i64 g_s.horizon),.mp 10001 0]),(10001,0,.map (eM g_known))] (.tup [.sl (ab eI res.1),.lit (.bool res.2.1)]) [(10000,0,.var [.sl (ab GNode.encS g_s.nodes),.sl (ab GTie.enc g_s.ties),.lit (.int .i64 g_s.horizon),.mp 10001 0]),(10001,0,.map (eM res.2.2))]:=by
 refine aE (ra:=[.nilSl 4]) (md:=mdT) hT (hi:=ET) Tryz.func163 rfl rfl (by decide +kernel) (by simp) ?_
 unfold dP at h
 obtain ⟨r01,g1,h⟩:=af h
 simp(config:=cS)only[go_sem]
 have g1:=ctr g1
 refine ah g1 ?_
 obtain ⟨q04,l2,h⟩:=af h
 simp(config:=cS)only[go_sem]
 refine ak (m1:=.mk) (m2:=.mk) [.freeze [832],.nf [0,3,13,14,15] [10000,10001,192,832]] (mi ((r01.length:Nat):Int) v1.now v1.times v1.values r01 g_s.nodes g_s.ties g_s.horizon) l2 ?_ ?_
 ·simp(config:=cS)only[go_sem]
 ·intro nb3 sb3 bb3 b3 gb3
  obtain ⟨v15_1,h10001_1⟩:=sb3
  unfold eV at b3
  try dsimp only at b3
  obtain ⟨h4,b3⟩|⟨h4,b3⟩:=bq b3
  ·obtain ⟨x02,g5,b3⟩:=af b3
   obtain ⟨h6,h7,h8⟩:=dK g5
   obtain ⟨r03,g9,b3⟩:=af b3
   simp(config:=cS)only[go_sem,eqT h4,h6,h7,h8]
   refine ah (om @hrec g9) ?_
   obtain ⟨h10,b3⟩|⟨h10,b3⟩:=bq b3
   ·cases b3
    obtain rfl:=(bc gb3).symm
    try dsimp only at h
    cases h
    simp(config:=cS)only[go_sem,eqT h4,h6,h7,h8,eZt h10]
   ·cases b3
    simp(config:=cS)only[go_sem,eqT h4,h6,h7,h8,eZf h10]
    refine io gb3 ?_
    simp(config:=cS)only[go_sem,eqT h4,h6,h7,h8,eZf h10]
  ·cases b3
   obtain rfl:=(bc gb3).symm
   try dsimp only at h
   cases h
   simp(config:=cS)only[go_sem,eqF h4]
def mB (k:ByteArray)(f c:Int)(d e:List Int)(b:List (List Int))(g:List GNode)(h:List GTie)(i:Int):(Int × (List (ByteArray × Bool)))→St
 | (j,a)=>⟨[(0,.ptr 10000 0 0 0),(3,.ptr 192 1 0 0),(5,.lit (.string k)),(8,.lit (.bool true)),(45,.ref 2880 1 0 b.length),(46,.lit (.int .i64 f)),(47,.lit (.int .i64 j))],[(10000,0,.var [.sl (ab GNode.encS g),.sl (ab GTie.enc h),.lit (.int .i64 i),.mp 10001 0]),(10001,0,.map (eM a)),(192,1,.var [.lit (.int .i64 c),.sl (ab eI d),.sl (ab eI e)]),(2880,1,.tree (ab (eLS eI) b))],2⟩
attribute [go_sem] mB
@[go_sem] def hi97_13:DT:=.r2 0 14 .nil
@[go_sem] def hi97_10:DT:=.r2 0 5 (.i2 7 (.i2 5 (.i2 6 .nil)))
@[go_sem] def hi97_3:DT:=.r2 0 7 .nil
@[go_sem] def hi97_1:DT:=.r2 0 7 .nil
def hi97:Hint where
 acts:=fun _=>[]
 draws:=fun
  | 1=>⟨hi97_1,[[],[0],[0,1],[0,1,2],[],.range 5,.range 6],.range 7⟩
  | 3=>⟨hi97_3,[[],[0],[0,1],[0,1,2],[],.range 5,.range 6],.range 7⟩
  | 10=>⟨hi97_10,[[],[0],[0,1],[0,1,2],[],.range 5,.range 6,[]],.range 8⟩
  | 13=>⟨hi97_13,[[],[],[1],[1,2],[1,2,3],[],[],[1,2,3,4,5,6],.range 8,.range 9,.range 10,.range 10,.range 11,.range 13],[0,1,2,3,4,5,6,7,8,9,10,12,11,13]⟩
  | _=>⟨.nil,[],[]⟩
@[go_sem] theorem Xv (i:Nat):hi97.acts i=[]:=rfl
theorem TD (i:Nat):hi97.views i=none:=rfl
attribute [go_sem] TD Tryz.ntmps97 Tryz.results97
@[go_sem] theorem WO:(hi97.draws 1).order=hi97_1:=rfl
@[go_sem] theorem WP:(hi97.draws 3).order=hi97_3:=rfl
@[go_sem] theorem VT:(hi97.draws 10).order=hi97_10:=rfl
@[go_sem] theorem VU:(hi97.draws 13).order=hi97_13:=rfl
theorem vi {rec:GShow→(List (ByteArray × Bool))→GState→Option (Bool × (List (ByteArray × Bool)))}(hrec:∀ {g_s:GShow} {g_known:List (ByteArray × Bool)} {v1:GState} {res:Bool × (List (ByteArray × Bool))},rec g_s g_known v1=some res→aj Tryz.prog 97 [.ptr 10000 0 0 0,.agg (GState.encS v1)] [(10000,0,.var [.sl (ab GNode.encS g_s.nodes),.sl (ab GTie.enc g_s.ties),.lit (.int .i64 g_s.horizon),.mp 10001 0]),(10001,0,.map (eM g_known))] (.lit (.bool res.1)) [(10000,0,.var [.sl (ab GNode.encS g_s.nodes),.sl (ab GTie.enc g_s.ties),.lit (.int .i64 g_s.horizon),.mp 10001 0]),(10001,0,.map (eM res.2))]){g_s:GShow}{g_known:List (ByteArray × Bool)}{v1:GState}{res:Bool × (List (ByteArray × Bool))}(h:gz rec g_s g_known v1=some res):aj Tryz.prog 97 [.ptr 10000 0 0 0,.agg (GState.encS v1)] [(10000,0,.var [.sl (ab GNode.encS g_s.nodes),.sl (ab GTie.enc g_s.ties),.lit (.int .i64 g_s.horizon),.mp 10001 0]),(10001,0,.map (eM g_known))] (.lit (.bool res.1)) [(10000,0,.var [.sl (ab GNode.encS g_s.nodes),.sl (ab GTie.enc g_s.ties),.lit (.int .i64 g_s.horizon),.mp 10001 0]),(10001,0,.map (eM res.2))]:=by
 refine co (hi:=hi97) Tryz.func97 rfl rfl ?_
 unfold gz at h
 obtain ⟨r01,g1,h⟩:=af h
 simp(config:=cS)only[go_sem]
 have g1:=ctr g1
 refine ah g1 ?_
 obtain ⟨h2,h⟩|⟨h2,h⟩:=bq h
 ·cases h
  simp(config:=cS)only[go_sem,eZt h2]
 ·obtain ⟨r02,g3,h⟩:=af h
  simp(config:=cS)only[go_sem,eZf h2]
  have g3:=ctr g3
  refine ah g3 ?_
  obtain ⟨h4,h⟩|⟨h4,h⟩:=bq h
  ·cases h
   simp(config:=cS)only[go_sem,eZf h2,eZt h4]
  ·obtain ⟨r03,g5,h⟩:=af h
   simp(config:=cS)only[go_sem,eZf h2,eZf h4]
   have g5:=ctr g5
   refine ah g5 ?_
   obtain ⟨x04,g6,h8⟩|⟨g7,h8⟩:=It h
   ·cases h8
    simp(config:=cS)only[go_sem,eZf h2,eZf h4,g6]
   ·obtain ⟨r05,g9,h8⟩:=af h8
    simp(config:=cS)only[go_sem,eZf h2,eZf h4,g7]
    have g9:=ctr g9
    refine ah g9 ?_
    obtain ⟨q09,l10,h8⟩:=af h8
    simp(config:=cS)only[go_sem,eZf h2,eZf h4,g7]
    refine ak (m1:=.mk) (m2:=.mk) [.freeze [2880],.nf [0,3,5,8,45,46,47] [10000,10001,192,2880]] (mB r03 ((r05.length:Nat):Int) v1.now v1.times v1.values r05 g_s.nodes g_s.ties g_s.horizon) l10 ?_ ?_
    ·simp(config:=cS)only[go_sem,eZf h2,eZf h4,g7]
    ·intro nb11 sb11 bb11 b11 gb11
     obtain ⟨v47_1,h10001_1⟩:=sb11
     unfold fG at b11
     try dsimp only at b11
     obtain ⟨h12,b11⟩|⟨h12,b11⟩:=bq b11
     ·obtain ⟨x06,g13,b11⟩:=af b11
      obtain ⟨h14,h15,h16⟩:=dK g13
      obtain ⟨r07,g17,b11⟩:=af b11
      simp(config:=cS)only[go_sem,eZf h2,eZf h4,g7,eqT h12,h14,h15,h16]
      have g17:=ctr g17
      refine ah g17 ?_
      obtain ⟨r08,g18,b11⟩:=af b11
      simp(config:=cS)only[go_sem,eZf h2,eZf h4,g7,eqT h12,h14,h15,h16]
      refine ah (oW @hrec g18) ?_
      obtain ⟨h19,b11⟩|⟨h19,b11⟩:=bq b11
      ·cases b11
       simp(config:=cS)only[go_sem,eZf h2,eZf h4,g7,eqT h12,h14,h15,h16,eZt h19]
       refine io gb11 ?_
       simp(config:=cS)only[go_sem,eZf h2,eZf h4,g7,eqT h12,h14,h15,h16,eZt h19]
      ·cases b11
       obtain rfl:=(bc gb11).symm
       try dsimp only at h8
       cases h8
       simp(config:=cS)only[go_sem,eZf h2,eZf h4,g7,eqT h12,h14,h15,h16,eZf h19]
     ·cases b11
      obtain rfl:=(bc gb11).symm
      try dsimp only at h8
      cases h8
      simp(config:=cS)only[go_sem,eZf h2,eZf h4,g7,eqF h12]
theorem sO (fu:Nat):∀ {g_s:GShow} {g_known:List (ByteArray × Bool)} {v1:GState} {res:Bool × (List (ByteArray × Bool))},gI fu g_s g_known v1=some res→aj Tryz.prog 97 [.ptr 10000 0 0 0,.agg (GState.encS v1)] [(10000,0,.var [.sl (ab GNode.encS g_s.nodes),.sl (ab GTie.enc g_s.ties),.lit (.int .i64 g_s.horizon),.mp 10001 0]),(10001,0,.map (eM g_known))] (.lit (.bool res.1)) [(10000,0,.var [.sl (ab GNode.encS g_s.nodes),.sl (ab GTie.enc g_s.ties),.lit (.int .i64 g_s.horizon),.mp 10001 0]),(10001,0,.map (eM res.2))]:=by
 induction fu with
 | zero=>intro _ _ _ _ h;cases h
 | succ fu ih=>intro _ _ _ _ h;exact vi (@ih) h
theorem mP {g_s:GShow}{g_known:List (ByteArray × Bool)}{v1:GState}{res:Bool × (List (ByteArray × Bool))}(h:m_impl_game_wins g_s g_known v1=some res):aj Tryz.prog 97 [.ptr 10000 0 0 0,.agg (GState.encS v1)] [(10000,0,.var [.sl (ab GNode.encS g_s.nodes),.sl (ab GTie.enc g_s.ties),.lit (.int .i64 g_s.horizon),.mp 10001 0]),(10001,0,.map (eM g_known))] (.lit (.bool res.1)) [(10000,0,.var [.sl (ab GNode.encS g_s.nodes),.sl (ab GTie.enc g_s.ties),.lit (.int .i64 g_s.horizon),.mp 10001 0]),(10001,0,.map (eM res.2))]:=sO 40 h
theorem vj {g_s:GShow}{g_known:List (ByteArray × Bool)}{v1:GState}{nodes:List Int}{res:Bool × (List (ByteArray × Bool))}(h:lG g_s g_known v1 nodes=some res):aj Tryz.prog 242 [.ptr 10000 0 0 0,.agg (GState.encS v1),.sl (ab eI nodes)] [(10000,0,.var [.sl (ab GNode.encS g_s.nodes),.sl (ab GTie.enc g_s.ties),.lit (.int .i64 g_s.horizon),.mp 10001 0]),(10001,0,.map (eM g_known))] (.lit (.bool res.1)) [(10000,0,.var [.sl (ab GNode.encS g_s.nodes),.sl (ab GTie.enc g_s.ties),.lit (.int .i64 g_s.horizon),.mp 10001 0]),(10001,0,.map (eM res.2))]:=om (@mP) h
theorem xa {g_s:GShow}{g_known:List (ByteArray × Bool)}{v1:GState}{res:(List Int) × Bool × (List (ByteArray × Bool))}(h:mm g_s g_known v1=some res):aj Tryz.prog 163 [.ptr 10000 0 0 0,.agg (GState.encS v1)] [(10000,0,.var [.sl (ab GNode.encS g_s.nodes),.sl (ab GTie.enc g_s.ties),.lit (.int .i64 g_s.horizon),.mp 10001 0]),(10001,0,.map (eM g_known))] (.tup [.sl (ab eI res.1),.lit (.bool res.2.1)]) [(10000,0,.var [.sl (ab GNode.encS g_s.nodes),.sl (ab GTie.enc g_s.ties),.lit (.int .i64 g_s.horizon),.mp 10001 0]),(10001,0,.map (eM res.2.2))]:=oW (@mP) h
attribute [go_sem] Tryz.ntmps244 Tryz.results244
instance k244 {nodes:List Int} {g_s:GShow} {g_known:List (ByteArray × Bool)} {v2:GState}:Ctr (dQ nodes g_s g_known v2) (fun (res:Bool × (List (ByteArray × Bool)))=>aj Tryz.prog 244 [.sl (ab eI nodes),.ptr 10000 0 0 0,.ptr 10003 0 0 0] [(10000,0,.var [.ptr 10001 0 0 0]),(10001,0,.var [.sl (ab GNode.encS g_s.nodes),.sl (ab GTie.enc g_s.ties),.lit (.int .i64 g_s.horizon),.mp 10002 0]),(10002,0,.map (eM g_known)),(10003,0,.var [.lit (.int .i64 v2.now),.sl (ab eI v2.times),.sl (ab eI v2.values)])] (.lit (.bool res.1)) [(10000,0,.var [.ptr 10001 0 0 0]),(10001,0,.var [.sl (ab GNode.encS g_s.nodes),.sl (ab GTie.enc g_s.ties),.lit (.int .i64 g_s.horizon),.mp 10002 0]),(10002,0,.map (eM res.2)),(10003,0,.var [.lit (.int .i64 v2.now),.sl (ab eI v2.times),.sl (ab eI v2.values)])]):=⟨by
 intro res h0
 refine co (hi:=hi00) Tryz.func244 rfl rfl ?_
 unfold dQ at h0
 obtain ⟨r01,g0,h0⟩:=af h0
 simp(config:=cS)only[go_sem, *]
 refine ah (vj g0) ?_
 exact run⟩
def cY (h:Bool)(j:Int)(i:List (List Int))(a:List GNode)(b:List GTie)(c d:Int)(e f:List Int):(Int × (List (ByteArray × Bool)))→St
 | (k,g)=>⟨[(0,.ref 10000 0 0 i.length),(1,.fn 244 [.ptr 10001 0 0 0,.ptr 10004 0 0 0]),(7,.lit (.int .i64 j)),(8,.lit (.int .i64 k))],[(10000,0,.row h (ab (eLS eI) i)),(10001,0,.var [.ptr 10002 0 0 0]),(10002,0,.var [.sl (ab GNode.encS a),.sl (ab GTie.enc b),.lit (.int .i64 c),.mp 10003 0]),(10003,0,.map (eM g)),(10004,0,.var [.lit (.int .i64 d),.sl (ab eI e),.sl (ab eI f)])],2⟩
attribute [go_sem] cY
attribute [go_sem] Tryz.ntmps289 Tryz.results289
theorem jF {v0:List (List Int)}{g_s:GShow}{g_known:List (ByteArray × Bool)}{cap1:GState}{zb0:Bool}{res:Int × (List (List Int)) × (List (ByteArray × Bool))}(h0:bd v0 g_s g_known cap1=some res):aj Tryz.prog 289 [.ref 10000 0 0 v0.length,.fn 244 [.ptr 10001 0 0 0,.ptr 10004 0 0 0]] [(10000,0,.row zb0 (ab (eLS eI) v0)),(10001,0,.var [.ptr 10002 0 0 0]),(10002,0,.var [.sl (ab GNode.encS g_s.nodes),.sl (ab GTie.enc g_s.ties),.lit (.int .i64 g_s.horizon),.mp 10003 0]),(10003,0,.map (eM g_known)),(10004,0,.var [.lit (.int .i64 cap1.now),.sl (ab eI cap1.times),.sl (ab eI cap1.values)])] (.lit (.int .i64 res.1)) [(10000,0,.row zb0 (ab (eLS eI) res.2.1)),(10001,0,.var [.ptr 10002 0 0 0]),(10002,0,.var [.sl (ab GNode.encS g_s.nodes),.sl (ab GTie.enc g_s.ties),.lit (.int .i64 g_s.horizon),.mp 10003 0]),(10003,0,.map (eM res.2.2)),(10004,0,.var [.lit (.int .i64 cap1.now),.sl (ab eI cap1.times),.sl (ab eI cap1.values)])]:=by
 refine co (hi:=hi00) Tryz.func289 rfl rfl ?_
 unfold bd at h0
 obtain ⟨q03,l0,h0⟩:=af h0
 simp(config:=cS)only[go_sem, *]
 refine ak (m1:=.mk) (m2:=.mk) [.nf [0,1,7,8] [10000,10001,10002,10003,10004]] (cY zb0 ((v0.length:Nat):Int) v0 g_s.nodes g_s.ties g_s.horizon cap1.now cap1.times cap1.values) l0 ?_ ?_
 ·simp(config:=cS)only[go_sem, *]
 ·have k0:=h0
  clear h0 l0
  intro _ s0 _ h0 gb0
  obtain ⟨v8_1,h10003_1⟩:=s0
  unfold aX at h0
  try dsimp only at h0
  exact run
def cW (i:Bool)(h:Nat)(a:List GNode)(b:List GTie)(c d:Int)(e f:List Int):(Int × Int × (List (List Int)) × (List (ByteArray × Bool)))→St
 | (j,k,l,g)=>⟨[(0,.ref 10000 0 0 h),(1,.fn 244 [.ptr 10001 0 0 0,.ptr 10004 0 0 0]),(5,.lit (.int .i64 j)),(6,.lit (.int .i64 k))],[(10000,0,.row i (ab (eLS eI) l)),(10001,0,.var [.ptr 10002 0 0 0]),(10002,0,.var [.sl (ab GNode.encS a),.sl (ab GTie.enc b),.lit (.int .i64 c),.mp 10003 0]),(10003,0,.map (eM g)),(10004,0,.var [.lit (.int .i64 d),.sl (ab eI e),.sl (ab eI f)])],2⟩
attribute [go_sem] cW
def cC:Hint where
 acts:=fun i=>match i with | 0=>[.frIn 10000] | _=>[]
 draws:=fun
  | _=>⟨.nil,[],[]⟩
@[go_sem] theorem RD:cC.acts 0=[.frIn 10000]:=rfl
@[go_sem] theorem RE:cC.acts 1=[]:=rfl
@[go_sem] theorem RF:cC.acts 2=[]:=rfl
@[go_sem] theorem RG:cC.acts 3=[]:=rfl
@[go_sem] theorem RH:cC.acts 4=[]:=rfl
@[go_sem] theorem RI:cC.acts 5=[]:=rfl
@[go_sem] theorem RJ:cC.acts 7=[]:=rfl
@[go_sem] theorem RK:cC.acts 8=[]:=rfl
@[go_sem] theorem RL:cC.acts 9=[]:=rfl
@[go_sem] theorem Pm:cC.acts 10=[]:=rfl
@[go_sem] theorem RM:cC.acts 6=[]:=rfl
@[go_sem] theorem Pn:cC.acts 11=[]:=rfl
@[go_sem] theorem Po:cC.acts 12=[]:=rfl
theorem He (i:Nat):cC.views i=none:=rfl
attribute [go_sem] He Tryz.ntmps243 Tryz.results243
theorem jz {v0:List (List Int)}{g_s:GShow}{g_known:List (ByteArray × Bool)}{cap1:GState}{zb0:Bool}{res:(List (List Int)) × (List (ByteArray × Bool))}(h0:ba v0 g_s g_known cap1=some res):aj Tryz.prog 243 [.ref 10000 0 0 v0.length,.fn 244 [.ptr 10001 0 0 0,.ptr 10004 0 0 0]] [(10000,0,.row zb0 (ab (eLO eI) v0)),(10001,0,.var [.ptr 10002 0 0 0]),(10002,0,.var [.sl (ab GNode.encS g_s.nodes),.sl (ab GTie.enc g_s.ties),.lit (.int .i64 g_s.horizon),.mp 10003 0]),(10003,0,.map (eM g_known)),(10004,0,.var [.lit (.int .i64 cap1.now),.sl (ab eI cap1.times),.sl (ab eI cap1.values)])] (.ref 10000 0 0 res.1.length) [(10000,0,.row false (ab (eLS eI) res.1)),(10001,0,.var [.ptr 10002 0 0 0]),(10002,0,.var [.sl (ab GNode.encS g_s.nodes),.sl (ab GTie.enc g_s.ties),.lit (.int .i64 g_s.horizon),.mp 10003 0]),(10003,0,.map (eM res.2)),(10004,0,.var [.lit (.int .i64 cap1.now),.sl (ab eI cap1.times),.sl (ab eI cap1.values)])]:=by
 refine aE (ra:=[.home 4,.trim 4]) (md:=mdT) hT (hi:=cC) Tryz.func243 rfl rfl (by decide +kernel) (by simp) ?_
 unfold ba at h0
 obtain ⟨r01,g0,h0⟩:=af h0
 simp(config:=cS)only[go_sem, *]
 refine ah (jF g0) ?_
 obtain ⟨_,h0⟩|⟨_,h0⟩:=itP h0
 ·exact run
 ·obtain ⟨q05,l0,h0⟩:=af h0
  simp(config:=cS)only[go_sem, *]
  refine ak (m1:=.mk) (m2:=.mk) [.nf [0,1,5,6] [10000,10001,10002,10003,10004]] (cW zb0 v0.length g_s.nodes g_s.ties g_s.horizon cap1.now cap1.times cap1.values) l0 ?_ ?_
  ·simp(config:=cS)only[go_sem, *]
  ·have k0:=h0
   clear h0 l0
   intro _ s0 _ h0 gb0
   obtain ⟨v5_1,v6_1,v0_1,h10003_1⟩:=s0
   unfold aW at h0
   try dsimp only at h0
   exact run
@[go_sem] def hi165_1:DT:=.r2 0 5 (.i2 6 (.i2 5 (.i2 7 (.i2 8 .nil))))
def EU:Hint where
 acts:=fun _=>[]
 draws:=fun
  | 1=>⟨hi165_1,[[],[0],[0,1],[0,1,2],[],.range 5,[],.range 7,.range 8],.range 9⟩
  | _=>⟨.nil,[],[]⟩
theorem RN (i:Nat):EU.acts i=[]:=rfl
theorem RP (i:Nat):EU.views i=none:=rfl
attribute [go_sem] RN RP Tryz.ntmps165 Tryz.results165
@[go_sem] theorem VV:(EU.draws 1).order=hi165_1:=rfl
instance k165 {g_s:GShow} {g_known:List (ByteArray × Bool)} {v1:GState}:Ctr (iH g_s g_known v1) (fun (res:(List (List Int)) × (List (ByteArray × Bool)))=>aj Tryz.prog 165 [.ptr 10000 0 0 0,.agg (GState.encS v1)] [(10000,0,.var [.sl (ab GNode.encS g_s.nodes),.sl (ab GTie.enc g_s.ties),.lit (.int .i64 g_s.horizon),.mp 10001 0]),(10001,0,.map (eM g_known))] (.ref 20000 1 0 res.1.length) [(10000,0,.var [.sl (ab GNode.encS g_s.nodes),.sl (ab GTie.enc g_s.ties),.lit (.int .i64 g_s.horizon),.mp 10001 0]),(10001,0,.map (eM res.2)),(20000,1,.row false (ab (eLS eI) res.1))]):=⟨by
 intro res h0
 refine aE (ra:=[.home 4,.trim 4]) (md:=mdT) hT (hi:=EU) Tryz.func165 rfl rfl (by decide +kernel) (by simp) ?_
 unfold iH at h0
 obtain ⟨r01,g0,h0⟩:=af h0
 simp(config:=cS)only[go_sem, *]
 have g0:=ctr g0
 refine ah g0 ?_
 obtain ⟨r02,g0,h0⟩:=af h0
 simp(config:=cS)only[go_sem, *]
 refine ah (jz g0) ?_
 exact run⟩
attribute [go_sem] Tryz.ntmps164 Tryz.results164
instance k164 {list:List (List Int)} {lazy:Bool}:Ctr (lH list lazy) (fun (res:(List Int) × Bool)=>aj Tryz.prog 164 [.sl (ab (eLS eI) list),.lit (.bool lazy)] [] (.tup [.sl (ab eI res.1),.lit (.bool res.2)]) []):=⟨by
 intro res h0
 refine aE (ra:=[.nilSl 4]) (md:=mdT) hT (hi:=hi00) Tryz.func164 rfl rfl (by decide +kernel) (by simp) ?_
 unfold lH at h0
 obtain ⟨_,h0⟩|⟨_,h0⟩:=itP h0
 ·exact run
 ·obtain ⟨_,h0⟩|⟨_,h0⟩:=itB h0
  ·exact run
  ·obtain ⟨x02,g1,h0⟩:=af h0
   have:=cR (k:=0) g1
   exact run⟩
attribute [go_sem] Tryz.ntmps162 Tryz.results162
instance k162 {g_s:GShow} {g_known:List (ByteArray × Bool)} {v1:GState} {d:GDesk}:Ctr (gA g_s g_known v1 d) (fun (res:(List Int) × Bool × (List (ByteArray × Bool)))=>aj Tryz.prog 162 [.ptr 10000 0 0 0,.agg (GState.encS v1),.loc [.sl (ab GNode.encS d.show_.nodes),.sl (ab GTie.enc d.show_.ties),.lit (.int .i64 d.show_.horizon),.lit (.int .i64 d.state.now),.sl (ab eI d.state.times),.sl (ab eI d.state.values),.lit (.bool d.lazy),.sl (ab an.encS d.log)]] [(10000,0,.var [.sl (ab GNode.encS g_s.nodes),.sl (ab GTie.enc g_s.ties),.lit (.int .i64 g_s.horizon),.mp 10001 0]),(10001,0,.map (eM g_known))] (.tup [.sl (ab eI res.1),.lit (.bool res.2.1)]) [(10000,0,.var [.sl (ab GNode.encS g_s.nodes),.sl (ab GTie.enc g_s.ties),.lit (.int .i64 g_s.horizon),.mp 10001 0]),(10001,0,.map (eM res.2.2))]):=⟨by
 intro res h0
 refine aE (ra:=[.home 5]) (md:=mdT) hT (hi:=hi00) Tryz.func162 rfl rfl (by decide +kernel) (by simp) ?_
 unfold gA at h0
 obtain ⟨_,h0⟩|⟨_,h0⟩:=itB h0
 ·exact run
 ·obtain ⟨r03,g0,h0⟩:=af h0
  simp(config:=cS)only[go_sem, *]
  refine ah (xa g0) ?_
  exact run⟩
def nr (a d:List Int)(e:Int):(Int × (List Int))→St
 | (c,b)=>⟨[(1,.sl (ab eI a)),(5,.ref 383 1 0 b.length),(8,.sl (ab eI d)),(9,.lit (.int .i64 e)),(10,.lit (.int .i64 c))],[(383,1,.row true (ab eI b))],2⟩
attribute [go_sem] nr
attribute [go_sem] Tryz.ntmps241 Tryz.results241
instance k241 {props:List Int} {values:List Int}:Ctr (jr props values) (fun (res:List Int)=>aj Tryz.prog 241 [.sl (ab eI props),.sl (ab eI values)] [] (.ref 20000 1 0 res.length) [(20000,1,.row true (ab eI res))]):=⟨by
 intro res h0
 refine aE (ra:=[.home 4]) (md:=mdT) hT (hi:=hi00) Tryz.func241 rfl rfl (by decide +kernel) (by simp) ?_
 unfold jr at h0
 obtain ⟨q03,l0,h0⟩:=af h0
 simp(config:=cS)only[go_sem, *]
 refine ak (m1:=.mk) (m2:=.mk) [.home 5,.nf [1,5,8,9,10] [383]] (nr values props ((props.length:Nat):Int)) l0 ?_ ?_
 ·simp(config:=cS)only[go_sem, *]
 ·have k0:=h0
  clear h0 l0
  intro _ s0 _ h0 gb0
  obtain ⟨v10_1,out_1⟩:=s0
  unfold gB at h0
  try dsimp only at h0
  exact run⟩
def cp (s h l:List Int)(t m n:Int)(o:Bool)(p:Int)(q r:List Int)(i:Int)(a:List GNode)(b:List GTie)(c d:List Int)(e:List an)(f g j:List Int):(Int × (List Int))→St
 | (u,k)=>⟨[(1,.sl (ab eI s)),(2,.sl (ab eI h)),(10,.ptr 640 1 0 0),(13,.ptr 832 1 0 0),(15,.ptr 960 1 0 0),(17,.sl (ab eI l)),(19,.ptr 1216 1 0 0),(20,.ref 5506 1 0 j.length),(21,.ref 1407 1 0 k.length),(89,.ref 5506 1 0 j.length),(90,.lit (.int .i64 t)),(91,.lit (.int .i64 u))],[(640,1,.var [.lit (.slice none 0 0),.lit (.slice none 0 0),.lit (.int .i64 0),.lit (.int .i64 0),.lit (.slice none 0 0),.lit (.slice none 0 0),.lit (.bool false),.lit (.slice none 0 0)]),(832,1,.var [.ref 1600 1 0 a.length,.ref 1601 1 0 b.length,.lit (.int .i64 m),.lit (.int .i64 n),.ref 1602 1 0 c.length,.ref 1603 1 0 d.length,.lit (.bool o),.ref 1604 1 0 e.length]),(1600,1,.row true (ab GNode.encO a)),(1601,1,.row true (ab GTie.enc b)),(1602,1,.row true (ab eI c)),(1603,1,.row true (ab eI d)),(1604,1,.row true (ab an.encO e)),(960,1,.var [.lit (.int .i64 p),.sl (ab eI q),.sl (ab eI r)]),(1216,1,.var [.lit (.int .i64 i),.ref 5504 1 0 f.length,.ref 5505 1 0 g.length]),(5504,1,.row true (ab eI f)),(5505,1,.row true (ab eI g)),(5506,1,.row true (ab eI j)),(1407,1,.row true (ab eI k))],2⟩
attribute [go_sem] cp
@[go_sem] def hi161_s162_22:DT:=.i1 0 (.i2 1 (.i0 2 [0] (.r2 3 3 .nil)))
@[go_sem] def hi161_s162_21:DT:=.i1 0 (.i1 1 (.i1 2 (.i1 3 (.i2 4 (.i2 6 (.i2 8 (.i2 9 (.i0 5 [0,1,2,3] (.i0 7 [0,1,2,3] (.i0 10 [0,1,2,3] (.i2 11 (.i0 12 [0,1] (.r2 13 3 .nil)))))))))))))
@[go_sem] def hi161_s162_10:DT:=.i2 0 (.i2 1 (.i1 3 (.i0 2 [3] (.r2 4 6 .nil))))
@[go_sem] def hi161_s162_4:DT:=.i1 0 (.i1 1 (.i1 2 (.i1 3 (.fork (.i0 4 [0,1,2,3] (.i0 5 [0,1,2,3] (.i0 6 [2,3] (.i2 7 .nil)))) (.i0 5 [0,1,2,3] (.i0 4 [0,1,2,3] (.i0 6 [2,3] (.i2 7 .nil))))))))
def kB:Hint where
 acts:=fun _=>[]
 draws:=fun
  | 4=>⟨hi161_s162_4,[[],[0],[],[2],[],[],[0,1,4,5],.range 7],[0,1,5,6,2,3,4,7]⟩
  | 10=>⟨hi161_s162_10,[[],[],[1],[],[0,1,2,3],.range 5,.range 6,.range 6,.range 7,.range 9],[0,1,2,3,4,5,6,8,7,9]⟩
  | 21=>⟨hi161_s162_21,[[],[0],[],[2],[],[4],[],[4,5,6],[],[],[4,5,6,7,8,9],[2,3,4,5,6,7,8,9,10],[2,3,4,5,6,7,8,9,10,11],.range 13,.range 14,.range 15],.range 16⟩
  | 22=>⟨hi161_s162_22,[[],[],[1],[0,1,2],[0,1,2,3],.range 5],.range 6⟩
  | _=>⟨.nil,[],[]⟩
theorem Hf (i:Nat):kB.acts i=[]:=rfl
theorem Hg (i:Nat):kB.views i=none:=rfl
attribute [go_sem] Hf Hg Tryz.ntmps161 Tryz.results161
@[go_sem] theorem RQ:(kB.draws 4).order=hi161_s162_4:=rfl
@[go_sem] theorem Pp:(kB.draws 10).order=hi161_s162_10:=rfl
@[go_sem] theorem Pq:(kB.draws 21).order=hi161_s162_21:=rfl
@[go_sem] theorem Pr:(kB.draws 22).order=hi161_s162_22:=rfl
instance k161 {d:GDesk} {ties:List Int} {values:List Int} {refused:Int} {d':GDesk}:Ctr (bz d ties values refused d') (fun (res:GDesk × (List Int) × Int)=>aj Tryz.prog 161 [.agg (GDesk.encS d),.sl (ab eI ties),.sl (ab eI values),.lit (.int .i64 refused),.fn 162 [.loc [.sl (ab GNode.encS d'.show_.nodes),.sl (ab GTie.enc d'.show_.ties),.lit (.int .i64 d'.show_.horizon),.lit (.int .i64 d'.state.now),.sl (ab eI d'.state.times),.sl (ab eI d'.state.values),.lit (.bool d'.lazy),.sl (ab an.encS d'.log)]]] [] (.tup [.agg [.ref 20000 1 0 res.1.show_.nodes.length,.ref 20001 1 0 res.1.show_.ties.length,.lit (.int .i64 res.1.show_.horizon),.lit (.int .i64 res.1.state.now),.ref 20002 1 0 res.1.state.times.length,.ref 20003 1 0 res.1.state.values.length,.lit (.bool res.1.lazy),.ref 20004 1 0 res.1.log.length],.ref 20005 1 0 res.2.1.length,.lit (.int .i64 res.2.2)]) [(20000,1,.row true (ab GNode.encO res.1.show_.nodes)),(20001,1,.row true (ab GTie.enc res.1.show_.ties)),(20002,1,.row true (ab eI res.1.state.times)),(20003,1,.row true (ab eI res.1.state.values)),(20004,1,.row true (ab an.encO res.1.log)),(20005,1,.row true (ab eI res.2.1))]):=⟨by
 intro res h0
 refine aE (ra:=[.homeCell 640 0,.homeCell 640 1,.homeCell 640 4,.homeCell 640 5,.homeCell 640 7,.home 11]) (md:=mdT) hT (hi:=kB) Tryz.func161 rfl rfl (by decide +kernel) (by simp) ?_
 unfold bz at h0
 obtain ⟨r01,g0,h0⟩:=af h0
 simp(config:=cS)only[go_sem, *]
 have g0:=ctr g0
 refine ah g0 ?_
 obtain ⟨r02,g0,h0⟩:=af h0
 simp(config:=cS)only[go_sem, *]
 have g0:=ctr g0
 refine ah g0 ?_
 obtain ⟨_,h0⟩|⟨_,h0⟩:=itB h0
 ·obtain ⟨_,h0⟩|⟨_,h0⟩:=itP h0
  ·obtain ⟨r03,g0,h0⟩:=af h0
   simp(config:=cS)only[go_sem, *]
   refine ah (bY (by exact fun _ _ hr=>by have q:=ctr hr;exact q) (by refine ⟨fun _=>?_,fun _=>?_⟩ <;> simp only [go_sem]) (fun _=>rfl) rfl g0) ?_
   obtain ⟨_,h0⟩|⟨_,h0⟩:=itB h0
   ·exact run
   ·try simp(config:=cS)only[go_sem, *]
    refine dR ?_ ?_
    ·obtain ⟨r04,g0,h0⟩:=af h0
     simp(config:=cS)only[go_sem, *]
     have g0:=ctr g0
     refine ah g0 ?_
     obtain ⟨_,h0⟩|⟨_,h0⟩:=itB h0
     ·exact run
     ·obtain ⟨r05,g0,h0⟩:=af h0
      simp(config:=cS)only[go_sem, *]
      have g0:=ctr g0
      refine ah g0 ?_
      obtain ⟨_,h0⟩|⟨_,h0⟩:=itB h0
      ·exact run
      ·obtain ⟨_,h0⟩|⟨_,h0⟩:=itP h0
       ·exact run
       ·obtain ⟨r06,g0,h0⟩:=af h0
        simp(config:=cS)only[go_sem, *]
        have g0:=ctr g0
        refine ah g0 ?_
        obtain ⟨r07,g0,h0⟩:=af h0
        simp(config:=cS)only[go_sem, *]
        have g0:=ctr g0
        refine ah g0 ?_
        obtain ⟨_,h0⟩|⟨_,h0⟩:=itB h0
        ·obtain ⟨r08,g0,h0⟩:=af h0
         simp(config:=cS)only[go_sem, *]
         have g0:=ctr g0
         refine ah g0 ?_
         obtain ⟨r09,g0,h0⟩:=af h0
         simp(config:=cS)only[go_sem, *]
         have g0:=ctr g0
         refine ah g0 ?_
         obtain ⟨r10,g0,h0⟩:=af h0
         simp(config:=cS)only[go_sem, *]
         have g0:=ctr g0
         refine ah g0 ?_
         obtain ⟨_,h0⟩|⟨_,h0⟩:=itB h0
         ·obtain ⟨r11,g0,h0⟩:=af h0
          simp(config:=cS)only[go_sem, *]
          have g0:=ctr g0
          refine ah g0 ?_
          obtain ⟨q19,l0,h0⟩:=af h0
          simp(config:=cS)only[go_sem, *]
          refine ak (m1:=.mk) (m2:=.mk) [.home 21,.nf [1,2,10,13,15,17,19,20,21,89,90,91] [640,832,1600,1601,1602,1603,1604,960,1216,5504,5505,5506,1407]] (cp ties values r10.1 ((r11.2.length:Nat):Int) r01.show_.horizon r01.state.now r01.lazy d.state.now d.state.times d.state.values r11.1.now r01.show_.nodes r01.show_.ties r01.state.times r01.state.values r01.log r11.1.times r11.1.values r11.2) l0 ?_ ?_
          ·simp(config:=cS)only[go_sem, *]
          ·have k0:=h0
           clear h0 l0
           intro _ s0 _ h0 gb0
           obtain ⟨v91_1,seen_1⟩:=s0
           unfold aZ at h0
           try dsimp only at h0
           exact run
         ·exact run
        ·exact run
    ·obtain ⟨r20,g0,h0⟩:=af h0
     simp(config:=cS)only[go_sem, *]
     have g0:=ctr g0
     refine ah g0 ?_
     obtain ⟨_,h0⟩|⟨_,h0⟩:=itB h0
     ·exact run
     ·obtain ⟨r21,g0,h0⟩:=af h0
      simp(config:=cS)only[go_sem, *]
      have g0:=ctr g0
      refine ah g0 ?_
      obtain ⟨_,h0⟩|⟨_,h0⟩:=itB h0
      ·exact run
      ·obtain ⟨_,h0⟩|⟨_,h0⟩:=itP h0
       ·exact run
       ·obtain ⟨r22,g0,h0⟩:=af h0
        simp(config:=cS)only[go_sem, *]
        have g0:=ctr g0
        refine ah g0 ?_
        obtain ⟨r23,g0,h0⟩:=af h0
        simp(config:=cS)only[go_sem, *]
        have g0:=ctr g0
        refine ah g0 ?_
        obtain ⟨_,h0⟩|⟨_,h0⟩:=itB h0
        ·obtain ⟨r24,g0,h0⟩:=af h0
         simp(config:=cS)only[go_sem, *]
         have g0:=ctr g0
         refine ah g0 ?_
         obtain ⟨r25,g0,h0⟩:=af h0
         simp(config:=cS)only[go_sem, *]
         have g0:=ctr g0
         refine ah g0 ?_
         obtain ⟨r26,g0,h0⟩:=af h0
         simp(config:=cS)only[go_sem, *]
         have g0:=ctr g0
         refine ah g0 ?_
         obtain ⟨_,h0⟩|⟨_,h0⟩:=itB h0
         ·obtain ⟨r27,g0,h0⟩:=af h0
          simp(config:=cS)only[go_sem, *]
          have g0:=ctr g0
          refine ah g0 ?_
          obtain ⟨q35,l0,h0⟩:=af h0
          simp(config:=cS)only[go_sem, *]
          refine ak (m1:=.mk) (m2:=.mk) [.home 21,.nf [1,2,10,13,15,17,19,20,21,89,90,91] [640,832,1600,1601,1602,1603,1604,960,1216,5504,5505,5506,1407]] (cp ties values r26.1 ((r27.2.length:Nat):Int) r01.show_.horizon r01.state.now r01.lazy d.state.now d.state.times d.state.values r27.1.now r01.show_.nodes r01.show_.ties r01.state.times r01.state.values r01.log r27.1.times r27.1.values r27.2) l0 ?_ ?_
          ·simp(config:=cS)only[go_sem, *]
          ·have k0:=h0
           clear h0 l0
           intro _ s0 _ h0 gb0
           obtain ⟨v91_2,seen_2⟩:=s0
           unfold aZ at h0
           try dsimp only at h0
           exact run
         ·exact run
        ·exact run
  ·exact run
 ·exact run⟩
attribute [go_sem] Tryz.ntmps86 Tryz.results86
instance k86 {d:GDesk} {ties:List Int} {values:List Int}:Ctr (js d ties values) (fun (res:GDesk × (List Int) × Int)=>aj Tryz.prog 86 [.agg (GDesk.encS d),.sl (ab eI ties),.sl (ab eI values)] [] (.tup [.agg [.ref 20000 1 0 res.1.show_.nodes.length,.ref 20001 1 0 res.1.show_.ties.length,.lit (.int .i64 res.1.show_.horizon),.lit (.int .i64 res.1.state.now),.ref 20002 1 0 res.1.state.times.length,.ref 20003 1 0 res.1.state.values.length,.lit (.bool res.1.lazy),.ref 20004 1 0 res.1.log.length],.ref 20005 1 0 res.2.1.length,.lit (.int .i64 res.2.2)]) [(20000,1,.row true (ab GNode.encO res.1.show_.nodes)),(20001,1,.row true (ab GTie.enc res.1.show_.ties)),(20002,1,.row true (ab eI res.1.state.times)),(20003,1,.row true (ab eI res.1.state.values)),(20004,1,.row true (ab an.encO res.1.log)),(20005,1,.row true (ab eI res.2.1))]):=⟨by
 intro res h0
 refine aE (ra:=[.homeCell 384 0,.homeCell 384 1,.homeCell 384 4,.homeCell 384 5,.homeCell 384 7,.home 7]) (md:=mdT) hT (hi:=hi00) Tryz.func86 rfl rfl (by decide +kernel) (by simp) ?_
 unfold js at h0
 exact run⟩
def oo (i j:List Int):(Int × Int × Bool × (List GNode) × (List GTie) × (List Int) × (List Int) × (List an))→St
 | (f,g,h,a,b,c,d,e)=>⟨[(3,.ptr 192 1 0 0),(4,.ptr 256 1 0 0),(6,.ptr 384 1 0 0)],[(192,1,.var [.sl (ab eI i),.sl (ab eI j)]),(256,1,.var [.lit (.slice none 0 0),.lit (.slice none 0 0),.lit (.int .i64 0),.lit (.int .i64 0),.lit (.slice none 0 0),.lit (.slice none 0 0),.lit (.bool false),.lit (.slice none 0 0)]),(384,1,.var [.ref 704 1 0 a.length,.ref 705 1 0 b.length,.lit (.int .i64 f),.lit (.int .i64 g),.ref 706 1 0 c.length,.ref 707 1 0 d.length,.lit (.bool h),.ref 708 1 0 e.length]),(704,1,.row true (ab GNode.encO a)),(705,1,.row true (ab GTie.enc b)),(706,1,.row true (ab eI c)),(707,1,.row true (ab eI d)),(708,1,.row true (ab an.encO e))],2⟩
attribute [go_sem] oo
@[go_sem] def hi27_4:DT:=.i1 0 (.i1 1 (.i1 2 (.i1 3 (.i1 4 (.i1 5 (.i1 7 (.i1 8 (.fork (.i0 6 [0,7,8] (.fork (.i2 9 (.i2 10 (.i2 11 (.i2 12 (.i2 13 (.i0 14 [0,1,2,3,4,5,7,8] (.i2 15 (.i2 16 (.i2 17 .nil))))))))) (.i0 14 [0,1,2,3,4,5,7,8] (.i2 9 (.i2 10 (.i2 11 (.i2 12 (.i2 13 (.i2 15 (.i2 16 (.i2 17 .nil))))))))))) (.i0 14 [0,1,2,3,4,5,7,8] (.i0 6 [0,7,8] (.i2 9 (.i2 10 (.i2 11 (.i2 12 (.i2 13 (.i2 15 (.i2 16 (.i2 17 .nil))))))))))))))))))
def hi27:Hint where
 acts:=fun _=>[]
 draws:=fun
  | 4=>⟨hi27_4,[[],[],[1],[],[3],[],[1,2,3,4,5],[],[7],.range 9,.range 10,.range 11,.range 11,.range 11,[],[0,1,2,3,4,5,6,7,8,9,10,11,14],[0,1,2,3,4,5,6,7,8,9,10,11,12,14,15],.range 17],[0,1,2,3,4,5,6,7,8,9,10,11,14,16,12,13,15,17]⟩
  | _=>⟨.nil,[],[]⟩
theorem TE (i:Nat):hi27.acts i=[]:=rfl
theorem TF (i:Nat):hi27.views i=none:=rfl
attribute [go_sem] TE TF Tryz.ntmps27 Tryz.results27
@[go_sem] theorem WQ:(hi27.draws 4).order=hi27_4:=rfl
instance k27 {d:GDesk} {v1:GChoice}:Ctr (kf d v1) (fun (res:GDesk × Int)=>aj Tryz.prog 27 [.agg (GDesk.encS d),.agg [.sl (ab eI v1.lengths),.sl (ab eI v1.values)]] [] (.tup [.agg [.ref 20000 1 0 res.1.show_.nodes.length,.ref 20001 1 0 res.1.show_.ties.length,.lit (.int .i64 res.1.show_.horizon),.lit (.int .i64 res.1.state.now),.ref 20002 1 0 res.1.state.times.length,.ref 20003 1 0 res.1.state.values.length,.lit (.bool res.1.lazy),.ref 20004 1 0 res.1.log.length],.lit (.int .i64 res.2)]) [(20000,1,.row true (ab GNode.encO res.1.show_.nodes)),(20001,1,.row true (ab GTie.enc res.1.show_.ties)),(20002,1,.row true (ab eI res.1.state.times)),(20003,1,.row true (ab eI res.1.state.values)),(20004,1,.row true (ab an.encO res.1.log))]):=⟨by
 intro res h0
 refine aE (ra:=[.homeCell 256 0,.homeCell 256 1,.homeCell 256 4,.homeCell 256 5,.homeCell 256 7]) (md:=mdT) hT (hi:=hi27) Tryz.func27 rfl rfl (by decide +kernel) (by simp) ?_
 unfold kf at h0
 obtain ⟨r01,g0,h0⟩:=af h0
 simp(config:=cS)only[go_sem, *]
 have g0:=ctr g0
 refine ah g0 ?_
 obtain ⟨r02,g0,h0⟩:=af h0
 simp(config:=cS)only[go_sem, *]
 have g0:=ctr g0
 refine ah g0 ?_
 obtain ⟨_,h0⟩|⟨_,h0⟩:=itB h0
 ·obtain ⟨r03,g0,h0⟩:=af h0
  simp(config:=cS)only[go_sem, *]
  have g0:=ctr g0
  refine ah g0 ?_
  obtain ⟨_,h0⟩|⟨_,h0⟩:=itB h0
  ·obtain ⟨q09,l0,h0⟩:=af h0
   simp(config:=cS)only[go_sem, *]
   refine ak (m1:=.mk) (m2:=.mk) [.nfp [3,4,6] [(192,192),(256,256),(384,384),(2112,704),(704,704),(2113,705),(705,705),(2114,706),(706,706),(2115,707),(707,707),(2116,708),(708,708)] []] (oo v1.lengths v1.values) l0 ?_ ?_
   ·simp(config:=cS)only[go_sem, *]
   ·have k0:=h0
    clear h0 l0
    intro _ s0 _ h0 gb0
    obtain ⟨out_2_1,out_3_1,out_6_1,h704_1,h705_1,h706_1,h707_1,h708_1⟩:=s0
    unfold jK at h0
    try dsimp only at h0
    try simp(config:=cS)only[go_sem, *]
    refine dR ?_ ?_
    ·obtain ⟨r04,g0,h0⟩:=af h0
     simp(config:=cS)only[go_sem, *]
     have g0:=ctr g0
     refine ah g0 ?_
     try simp(config:=cS)only[go_sem, *]
     refine dR ?_ ?_
     ·exact run
     ·exact run
    ·exact run
  ·exact run
 ·exact run⟩
attribute [go_sem] Tryz.ntmps99 Tryz.results99
instance k99 {s:GShow} {v1:GState}:Ctr (kV s v1) (fun (res:Bool)=>aj Tryz.prog 99 [.agg (GShow.encS s),.agg (GState.encS v1)] [] (.lit (.bool res)) []):=⟨by
 intro res h0
 refine co (hi:=hi00) Tryz.func99 rfl rfl ?_
 unfold kV at h0
 exact run⟩
attribute [go_sem] Tryz.ntmps36 Tryz.results36
instance k36 {s:GShow} {v1:GChoice} {lazy:Bool}:Ctr (kg s v1 lazy) (fun (res:(List Int) × Bool)=>aj Tryz.prog 36 [.agg (GShow.encS s),.agg [.sl (ab eI v1.lengths),.sl (ab eI v1.values)],.lit (.bool lazy)] [] (.tup [.ref 20000 1 0 res.1.length,.lit (.bool res.2)]) [(20000,1,.row true (ab eI res.1))]):=⟨by
 intro res h0
 refine aE (ra:=[.home 6]) (md:=mdT) hT (hi:=hi00) Tryz.func36 rfl rfl (by decide +kernel) (by simp) ?_
 unfold kg at h0
 exact run⟩
attribute [go_sem] Tryz.ntmps59 Tryz.results59
instance k59 {s:GShow} {v1:GChoice}:Ctr (gC s v1) (fun (res:Bool)=>aj Tryz.prog 59 [.agg (GShow.encS s),.agg [.sl (ab eI v1.lengths),.sl (ab eI v1.values)]] [] (.lit (.bool res)) []):=⟨by
 intro res h0
 refine co (hi:=hi00) Tryz.func59 rfl rfl ?_
 unfold gC at h0
 exact run⟩
@[go_sem] def hi61_1:DT:=.r2 0 11 .nil
def hi61:Hint where
 acts:=fun _=>[]
 draws:=fun
  | 1=>⟨hi61_1,[[],[0],[],[0,1,2],[0,1,2,3],.range 5,[],[6],.range 8,.range 9,.range 10],.range 11⟩
  | _=>⟨.nil,[],[]⟩
theorem TG (i:Nat):hi61.acts i=[]:=rfl
theorem TH (i:Nat):hi61.views i=none:=rfl
attribute [go_sem] TG TH Tryz.ntmps61 Tryz.results61
@[go_sem] theorem WR:(hi61.draws 1).order=hi61_1:=rfl
instance k61 {s:GShow} {v1:GChoice} {node:Int}:Ctr (cO s v1 node) (fun (res:Bool)=>aj Tryz.prog 61 [.agg (GShow.encS s),.agg [.sl (ab eI v1.lengths),.sl (ab eI v1.values)],.lit (.int .i64 node)] [] (.lit (.bool res)) []):=⟨by
 intro res h0
 refine co (hi:=hi61) Tryz.func61 rfl rfl ?_
 unfold cO at h0
 exact run⟩
attribute [go_sem] Tryz.ntmps203 Tryz.results203
instance k203 {from_:Int} {to:Int} {low:Int} {high:Int} {reason:ByteArray} {out:ap} {reasons:List ByteArray}:Ctr (cg from_ to low high reason out reasons) (fun (res:ap × (List ByteArray))=>aj Tryz.prog 203 [.lit (.int .i64 from_),.lit (.int .i64 to),.lit (.int .i64 low),.lit (.int .i64 high),.lit (.string reason),.ptr 10000 0 0 0,.ptr 10002 0 0 0] [(10000,0,.var [.lit (.int .i64 out.events),.ref 10001 0 0 out.links.length]),(10001,0,.row true (ab GLink.enc out.links)),(10002,0,.var [.ref 10003 0 0 reasons.length]),(10003,0,.row true (ab eS reasons))] (.tup []) [(10000,0,.var [.lit (.int .i64 res.1.events),.ref 20000 1 0 res.1.links.length]),(10002,0,.var [.ref 20001 1 0 res.2.length]),(20000,1,.row true (ab GLink.enc res.1.links)),(20001,1,.row true (ab eS res.2))]):=⟨by
 intro res h0
 refine co (hi:=hi00) Tryz.func203 rfl rfl ?_
 unfold cg at h0
 exact run⟩
attribute [go_sem] Tryz.ntmps110 Tryz.results110
instance k110 {n:Int}:Ctr (dh n) (fun (res:ByteArray)=>aj Tryz.prog 110 [.lit (.int .i64 n)] [] (.lit (.string res)) []):=⟨by
 intro res h0
 refine co (hi:=hi00) Tryz.func110 rfl rfl ?_
 unfold dh at h0
 obtain ⟨r01,g0,h0⟩:=af h0
 simp(config:=cS)only[go_sem, *]
 refine ah (Dd g0) ?_
 exact run⟩
attribute [go_sem] Tryz.ntmps109 Tryz.results109
instance k109 {l:List ByteArray} {by_:ByteArray}:Ctr (jA l by_) (fun (res:ByteArray)=>aj Tryz.prog 109 [.sl (ab eS l),.lit (.string by_)] [] (.lit (.string res)) []):=⟨by
 intro res h0
 refine co (hi:=hi00) Tryz.func109 rfl rfl ?_
 unfold jA at h0
 obtain ⟨r01,g0,h0⟩:=af h0
 simp(config:=cS)only[go_sem, *]
 refine ah (De g0) ?_
 exact run⟩
@[go_sem] def hi204_5:DT:=.i2 0 (.i1 1 (.i1 2 (.i1 3 (.i1 4 (.i1 5 (.i1 6 (.i1 7 (.i1 8 (.i1 9 (.i1 10 (.i1 11 (.i1 12 (.i1 13 (.i1 14 (.i2 15 (.i2 16 (.i1 18 (.i1 19 (.i0 17 [1,2,3,4,5,6,7,8,9,10,11,12,13,14,18,19] (.i0 20 [1,2,3,4,5,6,7,8,9,10,11,12,13,14] (.r2 21 3 .nil)))))))))))))))))))))
def EV:Hint where
 acts:=fun _=>[]
 draws:=fun
  | 5=>⟨hi204_5,[[],[],[1],[],[3],[1,2,3,4],[1,2,3,4,5],[1,2,3,4,5,6],[],[8],[],[10],[8,9,10,11],[8,9,10,11,12],[8,9,10,11,12,13],[],[15],[15,16],[],[18],[15,16,17,18,19],.range 21,.range 22,.range 23],.range 24⟩
  | _=>⟨.nil,[],[]⟩
theorem RR (i:Nat):EV.acts i=[]:=rfl
theorem RS (i:Nat):EV.views i=none:=rfl
attribute [go_sem] RR RS Tryz.ntmps204 Tryz.results204
@[go_sem] theorem VW:(EV.draws 5).order=hi204_5:=rfl
instance k204 {s:GShow} {i:Int}:Ctr (iq s i) (fun (res:ByteArray)=>aj Tryz.prog 204 [.agg (GShow.encS s),.lit (.int .i64 i)] [] (.lit (.string res)) []):=⟨by
 intro res h0
 refine co (hi:=EV) Tryz.func204 rfl rfl ?_
 unfold iq at h0
 exact run⟩
end Go.Proofs.Qf
