/- Functions. -/
import Derived.Test.YtpkcmjnlnbddbaaGreatDoorXaFK0
set_option linter.all false
set_option maxRecDepth 100000
set_option maxHeartbeats 4000000
namespace Go.Proofs.Qa
open Go
def fO (c:List GTie)(a:Nat)(b:List AV)(d e:Int):St:=⟨[(0,.sl (ab GTie.enc c)),(1,.fn a b),(7,.lit (.int .i64 d)),(8,.lit (.int .i64 e))],[],2⟩
attribute [go_sem] fO
attribute [go_sem] Tryz.ntmps276 Tryz.results276
theorem mT {v0:List GTie}{v1:GTie→Option Bool}{f_v1:Nat}{k_v1:List AV}(hp_v1:∀ y0 r,v1 y0=some r→al Tryz.prog f_v1 ([.agg (GTie.enc y0)]++k_v1) [] (.lit (.bool r)) [])(hc_v1:KC k_v1)(hm_v1:∀ a,mdT f_v1 a=⟨[],false⟩)(hk_v1:spf f_v1=false){res:Int}(h:cu v0 v1=some res):al Tryz.prog 276 [.sl (ab GTie.enc v0),.fn f_v1 k_v1] [] (.lit (.int .i64 res)) []:=by
 refine co (hi:=hi00) Tryz.func276 rfl rfl ?_
 unfold cu at h
 obtain ⟨q03,l1,h⟩:=af h
 simp(config:=cS)only[go_sem,hc_v1.1,hc_v1.2,hm_v1,hk_v1]
 refine aq (m1:=.mk) (m2:=.mk) [.nf [0,1,7,8] []] (fO v0 f_v1 k_v1 ((v0.length:Nat):Int)) l1 ?_ ?_
 ·simp(config:=cS)only[go_sem,hc_v1.1,hc_v1.2,hm_v1,hk_v1]
 ·intro nb2 v8_1 bb2 b2 gb2
  unfold bk at b2
  try dsimp only at b2
  obtain ⟨h3,b2⟩|⟨h3,b2⟩:=fD b2
  ·obtain ⟨x01,g4,b2⟩:=af b2
   obtain ⟨h5,h6,h7⟩:=iQ g4
   obtain ⟨r02,g8,b2⟩:=af b2
   simp(config:=cS)only[go_sem,hc_v1.1,hc_v1.2,hm_v1,hk_v1,eqT h3,h5,h6,h7]
   refine az (hp_v1 _ _ g8) ?_
   obtain ⟨h9,b2⟩|⟨h9,b2⟩:=fD b2
   ·cases b2
    obtain rfl:=(cn gb2).symm
    try dsimp only at h
    cases h
    simp(config:=cS)only[go_sem,hc_v1.1,hc_v1.2,hm_v1,hk_v1,eqT h3,h5,h6,h7,eZt h9]
   ·cases b2
    simp(config:=cS)only[go_sem,hc_v1.1,hc_v1.2,hm_v1,hk_v1,eqT h3,h5,h6,h7,eZf h9]
    refine nm gb2 ?_
    simp(config:=cS)only[go_sem,hc_v1.1,hc_v1.2,hm_v1,hk_v1,eqT h3,h5,h6,h7,eZf h9]
  ·cases b2
   obtain rfl:=(cn gb2).symm
   try dsimp only at h
   cases h
   simp(config:=cS)only[go_sem,hc_v1.1,hc_v1.2,hm_v1,hk_v1,eqF h3]
attribute [go_sem] Tryz.ntmps225 Tryz.results225
theorem lr {v0:List GTie}{v1:GTie→Option Bool}{f_v1:Nat}{k_v1:List AV}(hp_v1:∀ y0 r,v1 y0=some r→al Tryz.prog f_v1 ([.agg (GTie.enc y0)]++k_v1) [] (.lit (.bool r)) [])(hc_v1:KC k_v1)(hm_v1:∀ a,mdT f_v1 a=⟨[],false⟩)(hk_v1:spf f_v1=false){res:Bool}(h:bl v0 v1=some res):al Tryz.prog 225 [.sl (ab GTie.enc v0),.fn f_v1 k_v1] [] (.lit (.bool res)) []:=by
 refine co (hi:=hi00) Tryz.func225 rfl rfl ?_
 unfold bl at h
 obtain ⟨r01,g1,h⟩:=af h
 simp(config:=cS)only[go_sem,hc_v1.1,hc_v1.2,hm_v1,hk_v1]
 refine az (mT hp_v1 hc_v1 hm_v1 hk_v1 g1) ?_
 cases h
 simp(config:=cS)only[go_sem,hc_v1.1,hc_v1.2,hm_v1,hk_v1]
attribute [go_sem] Tryz.ntmps226 Tryz.results226
instance k226 {u:GTie} {t:GTie}:Ctr (eh u t) (fun (res:Bool)=>al Tryz.prog 226 [.agg (GTie.enc u),.loc [.lit (.int .i64 t.from_),.lit (.int .i64 t.to),.lit (.int .i64 t.low),.lit (.int .i64 t.high),.lit (.bool t.free)]] [] (.lit (.bool res)) []):=⟨by
 intro res h0
 refine co (hi:=hi00) Tryz.func226 rfl rfl ?_
 unfold eh at h0
 exact run⟩
def jF (a:List GTie)(d:Int)(b:List GNode)(c e:Int):St:=⟨[(1,.ptr 64 1 0 0),(6,.sl (ab GTie.enc a)),(7,.lit (.int .i64 d)),(8,.lit (.int .i64 e))],[(64,1,.var [.sl (ab GNode.encS b),.sl (ab GTie.enc a),.lit (.int .i64 c)])],2⟩
attribute [go_sem] jF
@[go_sem] def hi143_7:DT:=.r2 0 36 .nil
def yb:Hint where
 acts:=fun _=>[]
 draws:=fun
  | 7=>⟨hi143_7,[[],[0],[0,1],[0,1,2],[0,1,2,3],.range 5,.range 6,.range 7,.range 8,.range 9,.range 10,.range 9,[0,1,2,3,4,5,6,7,8,11],.range 13,.range 14,.range 15,.range 16,.range 17,.range 18,.range 19,.range 20,.range 19,[0,1,2,3,4,5,6,7,8,9,10,11,12,13,14,15,16,17,18,21],.range 23,.range 24,.range 25,.range 19,[0,1,2,3,4,5,6,7,8,9,10,11,12,13,14,15,16,17,18,26],.range 19,[0,1,2,3,4,5,6,7,8,9,10,11,12,13,14,15,16,17,18,28],[0,1,2,3,4,5,6,7,8,9,10,11,12,13,14,15,16,17,18,26,27,28,29],[0,1,2,3,4,5,6,7,8,9,10,11,12,13,14,15,16,17,18,26,27,28,29,30],[0,1,2,3,4,5,6,7,8,9,10,11,12,13,14,15,16,17,18,26,27,28,29,30,31],.range 33,.range 34,.range 35],.range 36⟩
  | _=>⟨.nil,[],[]⟩
theorem Iv (i:Nat):yb.acts i=[]:=rfl
theorem Iw (i:Nat):yb.views i=none:=rfl
attribute [go_sem] Iv Iw Tryz.ntmps143 Tryz.results143
@[go_sem] theorem MA:(yb.draws 7).order=hi143_7:=rfl
instance k143 {s:GShow}:Ctr (fU s) (fun (res:Bool)=>al Tryz.prog 143 [.agg (GShow.encS s)] [] (.lit (.bool res)) []):=⟨by
 intro res h0
 refine co (hi:=yb) Tryz.func143 rfl rfl ?_
 unfold fU at h0
 obtain ⟨q10,l0,h0⟩:=af h0
 simp(config:=cS)only[go_sem, *]
 refine aq (m1:=.mk) (m2:=.mk) [.nf [1,6,7,8] [64]] (jF s.ties ((s.ties.length:Nat):Int) s.nodes s.horizon) l0 ?_ ?_
 ·simp(config:=cS)only[go_sem, *]
 ·have k0:=h0
  clear h0 l0
  intro _ v8_1 _ h0 gb0
  unfold df at h0
  try dsimp only at h0
  obtain ⟨_,h0⟩|⟨_,h0⟩:=itP h0
  ·obtain ⟨x01,_,_,_,h0⟩:=gtI h0
   obtain ⟨r02,g0,h0⟩:=af h0
   simp(config:=cS)only[go_sem, *]
   have g0:=ctr g0
   refine az g0 ?_
   obtain ⟨_,h0⟩|⟨_,h0⟩:=itB h0
   ·obtain ⟨r03,g0,h0⟩:=af h0
    simp(config:=cS)only[go_sem, *]
    have g0:=ctr g0
    refine az g0 ?_
    obtain ⟨_,h0⟩|⟨_,h0⟩:=itB h0
    ·obtain ⟨_,h0⟩|⟨_,h0⟩:=itP h0
     ·exact run
     ·obtain ⟨r04,g0,h0⟩:=af h0
      simp(config:=cS)only[go_sem, *]
      have g0:=ctr g0
      refine az g0 ?_
      obtain ⟨_,h0⟩|⟨_,h0⟩:=itB h0
      ·obtain ⟨r05,g0,h0⟩:=af h0
       simp(config:=cS)only[go_sem, *]
       have g0:=ctr g0
       refine az g0 ?_
       obtain ⟨_,h0⟩|⟨_,h0⟩:=itB h0
       ·obtain ⟨_,h0⟩|⟨_,h0⟩:=itP h0
        ·exact run
        ·obtain ⟨_,h0⟩|⟨_,h0⟩:=itB h0
         ·obtain ⟨_,h0⟩|⟨_,h0⟩:=itP h0
          ·exact run
          ·obtain ⟨_,h0⟩|⟨_,h0⟩:=itP h0
           ·exact run
           ·obtain ⟨x06,_,_,_,h0⟩:=gtI h0
            obtain ⟨_,h0⟩|⟨_,h0⟩:=itP h0
            ·obtain ⟨x07,_,_,_,h0⟩:=gtI h0
             obtain ⟨r08,g0,h0⟩:=af h0
             simp(config:=cS)only[go_sem, *]
             have g0:=ctr g0
             refine az g0 ?_
             obtain ⟨_,h0⟩|⟨_,h0⟩:=itB h0
             ·obtain ⟨_,h0⟩:=ckP h0
              obtain ⟨_,h0⟩:=ckP h0
              obtain ⟨r09,g0,h0⟩:=af h0
              simp(config:=cS)only[go_sem, *]
              refine az (lr (by exact fun _ _ hr=>by have q:=ctr hr;exact q) (by refine ⟨fun _=>?_,fun _=>?_⟩ <;> simp only [go_sem]) (fun _=>rfl) rfl g0) ?_
              exact run
             ·exact run
            ·exact run
         ·exact run
       ·exact run
      ·exact run
    ·exact run
   ·exact run
  ·exact run⟩
def fP (c:List Int)(a:Nat)(b:List AV)(d e:Int):St:=⟨[(0,.sl (ab eI c)),(1,.fn a b),(7,.lit (.int .i64 d)),(8,.lit (.int .i64 e))],[],2⟩
attribute [go_sem] fP
attribute [go_sem] Tryz.ntmps227 Tryz.results227
theorem mU {v0:List Int}{v1:Int→Option Bool}{f_v1:Nat}{k_v1:List AV}(hp_v1:∀ y0 r,v1 y0=some r→al Tryz.prog f_v1 ([.lit (.int .i64 y0)]++k_v1) [] (.lit (.bool r)) [])(hc_v1:KC k_v1)(hm_v1:∀ a,mdT f_v1 a=⟨[],false⟩)(hk_v1:spf f_v1=false){res:Int}(h:cv v0 v1=some res):al Tryz.prog 227 [.sl (ab eI v0),.fn f_v1 k_v1] [] (.lit (.int .i64 res)) []:=by
 refine co (hi:=hi00) Tryz.func227 rfl rfl ?_
 unfold cv at h
 obtain ⟨q03,l1,h⟩:=af h
 simp(config:=cS)only[go_sem,hc_v1.1,hc_v1.2,hm_v1,hk_v1]
 refine aq (m1:=.mk) (m2:=.mk) [.nf [0,1,7,8] []] (fP v0 f_v1 k_v1 ((v0.length:Nat):Int)) l1 ?_ ?_
 ·simp(config:=cS)only[go_sem,hc_v1.1,hc_v1.2,hm_v1,hk_v1]
 ·intro nb2 v8_1 bb2 b2 gb2
  unfold bm at b2
  try dsimp only at b2
  obtain ⟨h3,b2⟩|⟨h3,b2⟩:=fD b2
  ·obtain ⟨x01,g4,b2⟩:=af b2
   obtain ⟨h5,h6,h7⟩:=iQ g4
   obtain ⟨r02,g8,b2⟩:=af b2
   simp(config:=cS)only[go_sem,hc_v1.1,hc_v1.2,hm_v1,hk_v1,eqT h3,h5,h6,h7]
   refine az (hp_v1 _ _ g8) ?_
   obtain ⟨h9,b2⟩|⟨h9,b2⟩:=fD b2
   ·cases b2
    obtain rfl:=(cn gb2).symm
    try dsimp only at h
    cases h
    simp(config:=cS)only[go_sem,hc_v1.1,hc_v1.2,hm_v1,hk_v1,eqT h3,h5,h6,h7,eZt h9]
   ·cases b2
    simp(config:=cS)only[go_sem,hc_v1.1,hc_v1.2,hm_v1,hk_v1,eqT h3,h5,h6,h7,eZf h9]
    refine nm gb2 ?_
    simp(config:=cS)only[go_sem,hc_v1.1,hc_v1.2,hm_v1,hk_v1,eqT h3,h5,h6,h7,eZf h9]
  ·cases b2
   obtain rfl:=(cn gb2).symm
   try dsimp only at h
   cases h
   simp(config:=cS)only[go_sem,hc_v1.1,hc_v1.2,hm_v1,hk_v1,eqF h3]
attribute [go_sem] Tryz.ntmps144 Tryz.results144
theorem cT {v0:List Int}{v1:Int→Option Bool}{f_v1:Nat}{k_v1:List AV}(hp_v1:∀ y0 r,v1 y0=some r→al Tryz.prog f_v1 ([.lit (.int .i64 y0)]++k_v1) [] (.lit (.bool r)) [])(hc_v1:KC k_v1)(hm_v1:∀ a,mdT f_v1 a=⟨[],false⟩)(hk_v1:spf f_v1=false){res:Bool}(h:aJ v0 v1=some res):al Tryz.prog 144 [.sl (ab eI v0),.fn f_v1 k_v1] [] (.lit (.bool res)) []:=by
 refine co (hi:=hi00) Tryz.func144 rfl rfl ?_
 unfold aJ at h
 obtain ⟨r01,g1,h⟩:=af h
 simp(config:=cS)only[go_sem,hc_v1.1,hc_v1.2,hm_v1,hk_v1]
 refine az (mU hp_v1 hc_v1 hm_v1 hk_v1 g1) ?_
 cases h
 simp(config:=cS)only[go_sem,hc_v1.1,hc_v1.2,hm_v1,hk_v1]
def fG (c:List GNode)(a:Nat)(b:List AV)(d e:Int):St:=⟨[(0,.sl (ab GNode.encS c)),(1,.fn a b),(7,.lit (.int .i64 d)),(8,.lit (.int .i64 e))],[],2⟩
attribute [go_sem] fG
attribute [go_sem] Tryz.ntmps230 Tryz.results230
theorem me {v0:List GNode}{v1:GNode→Option Bool}{f_v1:Nat}{k_v1:List AV}(hp_v1:∀ y0 r,v1 y0=some r→al Tryz.prog f_v1 ([.agg (GNode.encS y0)]++k_v1) [] (.lit (.bool r)) [])(hc_v1:KC k_v1)(hm_v1:∀ a,mdT f_v1 a=⟨[],false⟩)(hk_v1:spf f_v1=false){res:Int}(h:ce v0 v1=some res):al Tryz.prog 230 [.sl (ab GNode.encS v0),.fn f_v1 k_v1] [] (.lit (.int .i64 res)) []:=by
 refine co (hi:=hi00) Tryz.func230 rfl rfl ?_
 unfold ce at h
 obtain ⟨q03,l1,h⟩:=af h
 simp(config:=cS)only[go_sem,hc_v1.1,hc_v1.2,hm_v1,hk_v1]
 refine aq (m1:=.mk) (m2:=.mk) [.nf [0,1,7,8] []] (fG v0 f_v1 k_v1 ((v0.length:Nat):Int)) l1 ?_ ?_
 ·simp(config:=cS)only[go_sem,hc_v1.1,hc_v1.2,hm_v1,hk_v1]
 ·intro nb2 v8_1 bb2 b2 gb2
  unfold bg at b2
  try dsimp only at b2
  obtain ⟨h3,b2⟩|⟨h3,b2⟩:=fD b2
  ·obtain ⟨x01,g4,b2⟩:=af b2
   obtain ⟨h5,h6,h7⟩:=iQ g4
   obtain ⟨r02,g8,b2⟩:=af b2
   simp(config:=cS)only[go_sem,hc_v1.1,hc_v1.2,hm_v1,hk_v1,eqT h3,h5,h6,h7]
   refine az (hp_v1 _ _ g8) ?_
   obtain ⟨h9,b2⟩|⟨h9,b2⟩:=fD b2
   ·cases b2
    obtain rfl:=(cn gb2).symm
    try dsimp only at h
    cases h
    simp(config:=cS)only[go_sem,hc_v1.1,hc_v1.2,hm_v1,hk_v1,eqT h3,h5,h6,h7,eZt h9]
   ·cases b2
    simp(config:=cS)only[go_sem,hc_v1.1,hc_v1.2,hm_v1,hk_v1,eqT h3,h5,h6,h7,eZf h9]
    refine nm gb2 ?_
    simp(config:=cS)only[go_sem,hc_v1.1,hc_v1.2,hm_v1,hk_v1,eqT h3,h5,h6,h7,eZf h9]
  ·cases b2
   obtain rfl:=(cn gb2).symm
   try dsimp only at h
   cases h
   simp(config:=cS)only[go_sem,hc_v1.1,hc_v1.2,hm_v1,hk_v1,eqF h3]
attribute [go_sem] Tryz.ntmps231 Tryz.results231
instance k231 {n:GNode} {p:Int}:Ctr (fJ n p) (fun (res:Bool)=>al Tryz.prog 231 [.agg (GNode.encS n),.loc [.lit (.int .i64 p)]] [] (.lit (.bool res)) []):=⟨by
 intro res h0
 refine co (hi:=hi00) Tryz.func231 rfl rfl ?_
 unfold fJ at h0
 exact run⟩
attribute [go_sem] Tryz.ntmps148 Tryz.results148
instance k148 {s:GShow} {p:Int}:Ctr (ca s p) (fun (res:Int)=>al Tryz.prog 148 [.agg (GShow.encS s),.lit (.int .i64 p)] [] (.lit (.int .i64 res)) []):=⟨by
 intro res h0
 refine co (hi:=hi00) Tryz.func148 rfl rfl ?_
 unfold ca at h0
 obtain ⟨r01,g0,h0⟩:=af h0
 simp(config:=cS)only[go_sem, *]
 refine az (me (by exact fun _ _ hr=>by have q:=ctr hr;exact q) (by refine ⟨fun _=>?_,fun _=>?_⟩ <;> simp only [go_sem]) (fun _=>rfl) rfl g0) ?_
 exact run⟩
def hN (a:List Int)(b c d:Int):St:=⟨[(0,.sl (ab eI a)),(1,.lit (.int .i64 b)),(7,.lit (.int .i64 c)),(8,.lit (.int .i64 d))],[],2⟩
attribute [go_sem] hN
attribute [go_sem] Tryz.ntmps169 Tryz.results169
instance k169 {v0:List Int} {v1:Int}:Ctr (cP v0 v1) (fun (res:Int)=>al Tryz.prog 169 [.sl (ab eI v0),.lit (.int .i64 v1)] [] (.lit (.int .i64 res)) []):=⟨by
 intro res h0
 refine co (hi:=hi00) Tryz.func169 rfl rfl ?_
 unfold cP at h0
 obtain ⟨q02,l0,h0⟩:=af h0
 simp(config:=cS)only[go_sem, *]
 refine aq (m1:=.mk) (m2:=.mk) [.nf [0,1,7,8] []] (hN v0 v1 ((v0.length:Nat):Int)) l0 ?_ ?_
 ·simp(config:=cS)only[go_sem, *]
 ·have k0:=h0
  clear h0 l0
  intro _ v8_1 _ h0 gb0
  unfold bQ at h0
  try dsimp only at h0
  exact run⟩
attribute [go_sem] Tryz.ntmps228 Tryz.results228
instance k228 {v0:List Int} {v1:Int}:Ctr (br v0 v1) (fun (res:Bool)=>al Tryz.prog 228 [.sl (ab eI v0),.lit (.int .i64 v1)] [] (.lit (.bool res)) []):=⟨by
 intro res h0
 refine co (hi:=hi00) Tryz.func228 rfl rfl ?_
 unfold br at h0
 exact run⟩
attribute [go_sem] Tryz.ntmps277 Tryz.results277
instance k277 {v0:Int} {a:List Int}:Ctr (dD v0 a) (fun (res:Bool)=>al Tryz.prog 277 [.lit (.int .i64 v0),.loc [.sl (ab eI a)]] [] (.lit (.bool res)) []):=⟨by
 intro res h0
 refine co (hi:=hi00) Tryz.func277 rfl rfl ?_
 unfold dD at h0
 exact run⟩
attribute [go_sem] Tryz.ntmps229 Tryz.results229
instance k229 {a:List Int} {b:List Int}:Ctr (dm a b) (fun (res:Bool)=>al Tryz.prog 229 [.sl (ab eI a),.sl (ab eI b)] [] (.lit (.bool res)) []):=⟨by
 intro res h0
 refine co (hi:=hi00) Tryz.func229 rfl rfl ?_
 unfold dm at h0
 obtain ⟨r01,g0,h0⟩:=af h0
 simp(config:=cS)only[go_sem, *]
 have g0:=ctr g0
 refine az g0 ?_
 obtain ⟨_,h0⟩|⟨_,h0⟩:=itB h0
 ·obtain ⟨r02,g0,h0⟩:=af h0
  simp(config:=cS)only[go_sem, *]
  have g0:=ctr g0
  refine az g0 ?_
  obtain ⟨_,h0⟩|⟨_,h0⟩:=itB h0
  ·obtain ⟨r03,g0,h0⟩:=af h0
   simp(config:=cS)only[go_sem, *]
   refine az (cT (by exact fun _ _ hr=>by have q:=ctr hr;exact q) (by refine ⟨fun _=>?_,fun _=>?_⟩ <;> simp only [go_sem]) (fun _=>rfl) rfl g0) ?_
   exact run
  ·exact run
 ·exact run⟩
@[go_sem] def hi146_1:DT:=.i1 0 (.i2 1 (.i0 2 [0] (.i2 3 (.i2 4 .nil))))
def yc:Hint where
 acts:=fun _=>[]
 draws:=fun
  | 1=>⟨hi146_1,[[],[],[1],[0,1,2],[0,1,2,3]],.range 5⟩
  | _=>⟨.nil,[],[]⟩
theorem Ix (i:Nat):yc.acts i=[]:=rfl
theorem Iy (i:Nat):yc.views i=none:=rfl
attribute [go_sem] Ix Iy Tryz.ntmps146 Tryz.results146
@[go_sem] theorem MB:(yc.draws 1).order=hi146_1:=rfl
instance k146 {s:GShow} {label:List Int} {v2:Int}:Ctr (eT s label v2) (fun (res:Bool)=>al Tryz.prog 146 [.agg (GShow.encS s),.sl (ab eI label),.lit (.int .i64 v2)] [] (.lit (.bool res)) []):=⟨by
 intro res h0
 refine co (hi:=yc) Tryz.func146 rfl rfl ?_
 unfold eT at h0
 exact run⟩
attribute [go_sem] Tryz.ntmps145 Tryz.results145
instance k145 {v0:Int} {s:GShow} {n:GNode}:Ctr (eU v0 s n) (fun (res:Bool)=>al Tryz.prog 145 [.lit (.int .i64 v0),.loc [.sl (ab GNode.encS s.nodes),.sl (ab GTie.enc s.ties),.lit (.int .i64 s.horizon)],.loc [.lit (.string n.name),.sl (ab eI n.label),.lit (.int .i64 n.watch)]] [] (.lit (.bool res)) []):=⟨by
 intro res h0
 refine co (hi:=hi00) Tryz.func145 rfl rfl ?_
 unfold eU at h0
 exact run⟩
def kb (a:List GNode)(b:Int)(c:List GTie)(d e:Int):St:=⟨[(1,.ptr 64 1 0 0),(24,.sl (ab GNode.encS a)),(25,.lit (.int .i64 b)),(26,.lit (.int .i64 e))],[(64,1,.var [.sl (ab GNode.encS a),.sl (ab GTie.enc c),.lit (.int .i64 d)])],2⟩
attribute [go_sem] kb
attribute [go_sem] Tryz.ntmps70 Tryz.results70
instance k70 {s:GShow}:Ctr (gE s) (fun (res:Bool)=>al Tryz.prog 70 [.agg (GShow.encS s)] [] (.lit (.bool res)) []):=⟨by
 intro res h0
 refine co (hi:=hi00) Tryz.func70 rfl rfl ?_
 unfold gE at h0
 obtain ⟨r01,g0,h0⟩:=af h0
 simp(config:=cS)only[go_sem, *]
 have g0:=ctr g0
 refine az g0 ?_
 obtain ⟨_,h0⟩|⟨_,h0⟩:=itB h0
 ·obtain ⟨r02,g0,h0⟩:=af h0
  simp(config:=cS)only[go_sem, *]
  have g0:=ctr g0
  refine az g0 ?_
  obtain ⟨_,h0⟩|⟨_,h0⟩:=itB h0
  ·obtain ⟨_,h0⟩|⟨_,h0⟩:=itP h0
   ·exact run
   ·obtain ⟨_,h0⟩|⟨_,h0⟩:=itP h0
    ·exact run
    ·obtain ⟨q05,l0,h0⟩:=af h0
     simp(config:=cS)only[go_sem, *]
     refine aq (m1:=.mk) (m2:=.mk) [.nf [1,24,25,26] [64]] (kb s.nodes ((s.nodes.length:Nat):Int) s.ties s.horizon) l0 ?_ ?_
     ·simp(config:=cS)only[go_sem, *]
     ·have k0:=h0
      clear h0 l0
      intro _ v26_1 _ h0 gb0
      unfold dA at h0
      try dsimp only at h0
      obtain ⟨_,h0⟩|⟨_,h0⟩:=itP h0
      ·obtain ⟨x03,_,_,_,h0⟩:=gtI h0
       obtain ⟨r04,g0,h0⟩:=af h0
       simp(config:=cS)only[go_sem, *]
       refine az (cT (by exact fun _ _ hr=>by have q:=ctr hr;exact q) (by refine ⟨fun _=>?_,fun _=>?_⟩ <;> simp only [go_sem]) (fun _=>rfl) rfl g0) ?_
       exact run
      ·exact run
  ·exact run
 ·exact run⟩
def je (b:List GTie)(c:Int):(Int × (List Int))→St
 | (d,a)=>⟨[(3,.ref 255 1 0 a.length),(7,.sl (ab GTie.enc b)),(8,.lit (.int .i64 c)),(9,.lit (.int .i64 d))],[(255,1,.row true (ab eI a))],2⟩
attribute [go_sem] je
attribute [go_sem] Tryz.ntmps147 Tryz.results147
instance k147 {s:GShow}:Ctr (dT s) (fun (res:List Int)=>al Tryz.prog 147 [.agg (GShow.encS s)] [] (.ref 20000 1 0 res.length) [(20000,1,.row true (ab eI res))]):=⟨by
 intro res h0
 refine cE (ra:=[.home 2]) (md:=mdT) hT (hi:=hi00) Tryz.func147 rfl rfl (by decide +kernel) (by simp) ?_
 unfold dT at h0
 obtain ⟨q02,l0,h0⟩:=af h0
 simp(config:=cS)only[go_sem, *]
 refine aq (m1:=.mk) (m2:=.mk) [.home 3,.nf [3,7,8,9] [255]] (je s.ties ((s.ties.length:Nat):Int)) l0 ?_ ?_
 ·simp(config:=cS)only[go_sem, *]
 ·have k0:=h0
  clear h0 l0
  intro _ s0 _ h0 gb0
  obtain ⟨v9_1,out_1⟩:=s0
  unfold dM at h0
  try dsimp only at h0
  exact run⟩
def ls (b:Int)(c:List GNode)(d:List GTie)(e:Int)(a:List Int):(Int × Int)→St
 | (n,f)=>⟨[(1,.ptr 64 1 0 0),(3,.lit (.int .i64 n)),(11,.ref 704 1 0 a.length),(12,.lit (.int .i64 b)),(13,.lit (.int .i64 f))],[(64,1,.var [.sl (ab GNode.encS c),.sl (ab GTie.enc d),.lit (.int .i64 e)]),(704,1,.row true (ab eI a))],2⟩
attribute [go_sem] ls
def lu (a:List GNode)(b:List GTie)(c:Int):(Int × Int)→St
 | (n,p)=>⟨[(1,.ptr 64 1 0 0),(3,.lit (.int .i64 n)),(6,.lit (.int .i64 p))],[(64,1,.var [.sl (ab GNode.encS a),.sl (ab GTie.enc b),.lit (.int .i64 c)])],2⟩
attribute [go_sem] lu
@[go_sem] def hi71_7:DT:=.r2 0 17 .nil
def hi71:Hint where
 acts:=fun _=>[]
 draws:=fun
  | 7=>⟨hi71_7,[[],[],[1],[],[1,2,3],[1,2,3,4],[1,2,3,4,5],[],[7],[],[7,8,9],[7,8,9,10],[7,8,9,10,11],[1,2,3,4,5,6,7,8,9,10,11,12],[1,2,3,4,5,6,7,8,9,10,11,12,13],.range 15,.range 16],.range 17⟩
  | _=>⟨.nil,[],[]⟩
theorem Kk (i:Nat):hi71.acts i=[]:=rfl
theorem Kl (i:Nat):hi71.views i=none:=rfl
attribute [go_sem] Kk Kl Tryz.ntmps71 Tryz.results71
@[go_sem] theorem Nq:(hi71.draws 7).order=hi71_7:=rfl
def nz (c:Int)(d:List GNode)(e:List GTie)(f:Int)(b:List Int):(Int × Int × (List Int))→St
 | (n,g,a)=>⟨[(1,.lit (.int .i64 n)),(2,.ptr 128 1 0 0),(4,.ptr 256 1 0 0),(5,.ptr 320 1 0 0),(12,.ref 768 1 0 b.length),(13,.lit (.int .i64 c)),(14,.lit (.int .i64 g))],[(128,1,.var [.sl (ab GNode.encS d),.sl (ab GTie.enc e),.lit (.int .i64 f)]),(256,1,.var [.lit (.slice none 0 0),.lit (.slice none 0 0)]),(320,1,.var [.ref 100020480 1 0 a.length,.lit (.slice none 0 0)]),(100020480,1,.row true (ab eI a)),(768,1,.row true (ab eI b))],2⟩
attribute [go_sem] nz
def nD (c:List GNode)(d:List GTie)(e:Int)(a:List Int):(Int × Int × (List Int))→St
 | (n,p,b)=>⟨[(1,.lit (.int .i64 n)),(2,.ptr 128 1 0 0),(4,.ptr 256 1 0 0),(5,.ptr 320 1 0 0),(9,.lit (.int .i64 p))],[(128,1,.var [.sl (ab GNode.encS c),.sl (ab GTie.enc d),.lit (.int .i64 e)]),(256,1,.var [.lit (.slice none 0 0),.lit (.slice none 0 0)]),(320,1,.var [.ref 100020480 1 0 a.length,.ref 100020481 1 0 b.length]),(100020480,1,.row true (ab eI a)),(100020481,1,.row true (ab eI b))],2⟩
attribute [go_sem] nD
@[go_sem] def hi72_6:DT:=.i1 0 (.i1 1 (.r2 2 10 (.i0 12 [0,1] (.r2 13 3 .nil))))
@[go_sem] def hi72_5:DT:=.r2 0 15 .nil
def hi72:Hint where
 acts:=fun _=>[]
 draws:=fun
  | 5=>⟨hi72_5,[[],[0],[],[0,1,2],[0,1,2,3],.range 5,[],[6],[],[6,7,8],[6,7,8,9],[6,7,8,9,10],.range 12,.range 13,.range 14],.range 15⟩
  | 6=>⟨hi72_6,[[],[0],[],[2],[],[2,3,4],[2,3,4,5],[2,3,4,5,6],[],[],[8,9],[2,3,4,5,6,7,8,9,10],[2,3,4,5,6,7,8,9,10,11],.range 13,.range 14,.range 15],.range 16⟩
  | _=>⟨.nil,[],[]⟩
theorem Km (i:Nat):hi72.acts i=[]:=rfl
theorem Kn (i:Nat):hi72.views i=none:=rfl
attribute [go_sem] Km Kn Tryz.ntmps72 Tryz.results72
@[go_sem] theorem Nr:(hi72.draws 5).order=hi72_5:=rfl
@[go_sem] theorem Ns:(hi72.draws 6).order=hi72_6:=rfl
attribute [go_sem] Tryz.ntmps158 Tryz.results158
attribute [go_sem] Tryz.ntmps60 Tryz.results60
instance k60 {v0:List Int}:Ctr (dN v0) (fun (res:List Int)=>al Tryz.prog 60 [.sl (ab eI v0)] [] (.ref 20000 1 0 res.length) [(20000,1,.row true (ab eI res))]):=⟨by
 intro res h0
 refine cE (ra:=[.home 2]) (md:=mdT) hT (hi:=hi00) Tryz.func60 rfl rfl (by decide +kernel) (by simp) ?_
 unfold dN at h0
 obtain ⟨_,h0,_⟩|⟨a0,h0⟩:=CB h0
 ·exact run
 ·have:=fun (e:_→List AV)=>AX (e:=e) a0
  exact run⟩
def nE (d:List GNode)(e c:Int)(b:List GTie):(Int × (List GNode))→St
 | (f,a)=>⟨[(2,.ptr 128 1 0 0),(3,.ptr 192 1 0 0),(13,.sl (ab GNode.encS d)),(14,.lit (.int .i64 e)),(15,.lit (.int .i64 f))],[(128,1,.var [.lit (.slice none 0 0),.lit (.slice none 0 0),.lit (.int .i64 0)]),(192,1,.var [.ref 100012288 1 0 a.length,.ref 512 1 0 b.length,.lit (.int .i64 c)]),(100012288,1,.row true (ab GNode.encO a)),(512,1,.row true (ab GTie.enc b))],2⟩
attribute [go_sem] nE
@[go_sem] def hi81_1:DT:=.i1 0 (.i1 1 (.i1 3 (.i1 4 (.fork (.i0 2 [3,4] (.i2 5 (.i0 6 [0,1,3,4] (.i2 7 .nil)))) (.i0 6 [0,1,3,4] (.i0 2 [3,4] (.i2 5 (.i2 7 .nil))))))))
def hi81:Hint where
 acts:=fun _=>[]
 draws:=fun
  | 1=>⟨hi81_1,[[],[0],[0,1],[],[3],.range 5,[],.range 7],.range 8⟩
  | _=>⟨.nil,[],[]⟩
theorem Ko (i:Nat):hi81.acts i=[]:=rfl
theorem Kq (i:Nat):hi81.views i=none:=rfl
attribute [go_sem] Ko Kq Tryz.ntmps81 Tryz.results81
@[go_sem] theorem Nt:(hi81.draws 1).order=hi81_1:=rfl
attribute [go_sem] Tryz.ntmps263 Tryz.results263
attribute [go_sem] Tryz.ntmps192 Tryz.results192
def lv  : (Int × (List Int))→St
 | (b,a)=>⟨[(7,.ref 1920 1 0 a.length),(8,.lit (.int .i64 b))],[(1920,1,.row true (ab eI a))],2⟩
attribute [go_sem] lv
@[go_sem] def hi98_9:DT:=.r2 0 10 .nil
def hi98:Hint where
 acts:=fun _=>[]
 draws:=fun
  | 9=>⟨hi98_9,[[],[],[],[1,2],[],[],[4,5],[1,2,3,4,5,6],.range 8,.range 9],.range 10⟩
  | _=>⟨.nil,[],[]⟩
theorem Kr (i:Nat):hi98.acts i=[]:=rfl
theorem Ks (i:Nat):hi98.views i=none:=rfl
attribute [go_sem] Kr Ks Tryz.ntmps98 Tryz.results98
@[go_sem] theorem Nu:(hi98.draws 9).order=hi98_9:=rfl
@[go_sem] def hi35_3:DT:=.i1 1 (.i1 2 (.i1 3 (.fork (.i0 0 [1,2,3] (.fork (.i2 4 (.fork (.i0 5 [1,2,3] (.i2 6 (.i0 7 [1,2,3] (.i2 8 .nil)))) (.i0 7 [1,2,3] (.i0 5 [1,2,3] (.i2 6 (.i2 8 .nil)))))) (.fork (.i0 5 [1,2,3] (.fork (.i2 4 (.i2 6 (.i0 7 [1,2,3] (.i2 8 .nil)))) (.i0 7 [1,2,3] (.i2 4 (.i2 6 (.i2 8 .nil)))))) (.i0 7 [1,2,3] (.fork (.i2 4 (.i0 5 [1,2,3] (.i2 6 (.i2 8 .nil)))) (.i0 5 [1,2,3] (.i2 4 (.i2 6 (.i2 8 .nil))))))))) (.fork (.i0 5 [1,2,3] (.fork (.i0 0 [1,2,3] (.fork (.i2 4 (.i2 6 (.i0 7 [1,2,3] (.i2 8 .nil)))) (.i0 7 [1,2,3] (.i2 4 (.i2 6 (.i2 8 .nil)))))) (.i0 7 [1,2,3] (.i0 0 [1,2,3] (.i2 4 (.i2 6 (.i2 8 .nil))))))) (.i0 7 [1,2,3] (.fork (.i0 0 [1,2,3] (.fork (.i2 4 (.i0 5 [1,2,3] (.i2 6 (.i2 8 .nil)))) (.i0 5 [1,2,3] (.i2 4 (.i2 6 (.i2 8 .nil)))))) (.i0 5 [1,2,3] (.i0 0 [1,2,3] (.i2 4 (.i2 6 (.i2 8 .nil)))))))))))
def hi35:Hint where
 acts:=fun _=>[]
 draws:=fun
  | 3=>⟨hi35_3,[[],[],[1],[1,2],[0,1,2,3],[],.range 6,[],.range 8],.range 9⟩
  | _=>⟨.nil,[],[]⟩
theorem Kt (i:Nat):hi35.acts i=[]:=rfl
theorem Ku (i:Nat):hi35.views i=none:=rfl
attribute [go_sem] Kt Ku Tryz.ntmps35 Tryz.results35
@[go_sem] theorem Nv:(hi35.draws 3).order=hi35_3:=rfl
@[go_sem] def hi37_3:DT:=.i2 0 (.i1 2 (.i2 4 (.i0 1 [2] (.i2 3 (.r2 5 3 .nil)))))
def hi37:Hint where
 acts:=fun _=>[]
 draws:=fun
  | 3=>⟨hi37_3,[[],[0],[],[0,1,2],[],.range 5,.range 6,.range 7],.range 8⟩
  | _=>⟨.nil,[],[]⟩
theorem Kv (i:Nat):hi37.acts i=[]:=rfl
theorem Kw (i:Nat):hi37.views i=none:=rfl
attribute [go_sem] Kv Kw Tryz.ntmps37 Tryz.results37
@[go_sem] theorem Nw:(hi37.draws 3).order=hi37_3:=rfl
def jg (d:Int)(e:List GNode)(f:List GTie)(g:Int)(b c a:List Int)(h:Int):St:=⟨[(2,.ptr 128 1 0 0),(3,.ptr 192 1 0 0),(24,.ref 704 1 0 a.length),(25,.lit (.int .i64 d)),(26,.lit (.int .i64 h))],[(128,1,.var [.sl (ab GNode.encS e),.sl (ab GTie.enc f),.lit (.int .i64 g)]),(192,1,.var [.sl (ab eI b),.sl (ab eI c)]),(704,1,.row true (ab eI a))],2⟩
attribute [go_sem] jg
def jh (a:List Int)(b:Int)(c:List GNode)(d:List GTie)(e f:Int):St:=⟨[(2,.ptr 128 1 0 0),(59,.sl (ab eI a)),(60,.lit (.int .i64 b)),(61,.lit (.int .i64 f))],[(128,1,.var [.sl (ab GNode.encS c),.sl (ab GTie.enc d),.lit (.int .i64 e)])],2⟩
attribute [go_sem] jh
@[go_sem] def hi85_7:DT:=.r2 0 26 .nil
def hi85:Hint where
 acts:=fun _=>[]
 draws:=fun
  | 7=>⟨hi85_7,[[],[0],[],[0,1,2],[0,1,2,3],[],[5],[],[5,6,7],[5,6,7,8],[5,6,7,8,9],.range 11,.range 12,.range 13,.range 14,.range 13,.range 16,.range 17,.range 13,[0,1,2,3,4,5,6,7,8,9,10,11,12,18],.range 13,[0,1,2,3,4,5,6,7,8,9,10,11,12,18,19,20],[0,1,2,3,4,5,6,7,8,9,10,11,12,18,19,20,21],[0,1,2,3,4,5,6,7,8,9,10,11,12,18,19,20,21,22],.range 24,.range 25],.range 26⟩
  | _=>⟨.nil,[],[]⟩
theorem Kx (i:Nat):hi85.acts i=[]:=rfl
theorem Ky (i:Nat):hi85.views i=none:=rfl
attribute [go_sem] Kx Ky Tryz.ntmps85 Tryz.results85
@[go_sem] theorem Nx:(hi85.draws 7).order=hi85_7:=rfl
instance k85 {s:GShow} {v1:GChoice}:Ctr (fq s v1) (fun (res:Bool)=>al Tryz.prog 85 [.agg (GShow.encS s),.agg [.sl (ab eI v1.lengths),.sl (ab eI v1.values)]] [] (.lit (.bool res)) []):=⟨by
 intro res h0
 refine co (hi:=hi85) Tryz.func85 rfl rfl ?_
 unfold fq at h0
 obtain ⟨r01,g0,h0⟩:=af h0
 simp(config:=cS)only[go_sem, *]
 have g0:=ctr g0
 refine az g0 ?_
 obtain ⟨_,h0⟩|⟨_,h0⟩:=itP h0
 ·obtain ⟨_,h0⟩|⟨_,h0⟩:=itP h0
  ·obtain ⟨q09,l0,h0⟩:=af h0
   simp(config:=cS)only[go_sem, *]
   refine aq (m1:=.mk) (m2:=.mk) [.nf [2,3,24,25,26] [128,192,704]] (jg ((r01.length:Nat):Int) s.nodes s.ties s.horizon v1.lengths v1.values r01) l0 ?_ ?_
   ·simp(config:=cS)only[go_sem, *]
   ·have k0:=h0
    clear h0 l0
    intro _ v26_1 _ h0 gb0
    unfold cQ at h0
    try dsimp only at h0
    obtain ⟨_,h0⟩|⟨_,h0⟩:=itP h0
    ·exact run
    ·cases h0
     obtain rfl:=(cn gb0).symm
     clear gb0
     have h0:=k0
     clear k0
     try dsimp only at h0
     obtain ⟨q08,l0,h0⟩:=af h0
     simp(config:=cS)only[go_sem, *]
     refine aq (m1:=.mk) (m2:=.mk) [.nf [2,59,60,61] [128]] (jh v1.values ((v1.values.length:Nat):Int) s.nodes s.ties s.horizon) l0 ?_ ?_
     ·simp(config:=cS)only[go_sem, *]
     ·have k0:=h0
      clear h0 l0
      intro _ v61_2 _ h0 gb0
      unfold cR at h0
      try dsimp only at h0
      exact run
  ·exact run
 ·exact run⟩
@[go_sem] def hi159_1:DT:=.i1 0 (.i1 1 (.i2 2 (.i2 3 (.i1 5 (.i1 6 (.i0 4 [0,1,5,6] (.i0 7 [0,1] (.i2 8 (.i2 9 .nil)))))))))
def BD:Hint where
 acts:=fun _=>[]
 draws:=fun
  | 1=>⟨hi159_1,[[],[0],[],[2],[2,3],[],[5],[2,3,4,5,6],.range 8,.range 9],.range 10⟩
  | _=>⟨.nil,[],[]⟩
theorem Iz (i:Nat):BD.acts i=[]:=rfl
theorem IA (i:Nat):BD.views i=none:=rfl
attribute [go_sem] Iz IA Tryz.ntmps159 Tryz.results159
@[go_sem] theorem MD:(BD.draws 1).order=hi159_1:=rfl
def ow (b:List ap)(c:Int):(Int × (List ap))→St
 | (d,a)=>⟨[(3,.ref 255 1 0 a.length),(6,.sl (ab ap.encS b)),(7,.lit (.int .i64 c)),(8,.lit (.int .i64 d))],[(255,1,.row true (ab ap.encO a))],2⟩
attribute [go_sem] ow
@[go_sem] def hi160_5:DT:=.i2 0 (.i1 1 (.i1 2 (.i2 3 (.i2 4 (.i1 6 (.i1 7 (.i1 9 (.i1 10 (.i0 5 [1,2,6,7,9,10] (.i0 8 [1,2,9,10] (.i0 11 [1,2] (.r2 12 4 .nil))))))))))))
def BE:Hint where
 acts:=fun _=>[]
 draws:=fun
  | 5=>⟨hi160_5,[[],[],[1],[],[3],[3,4],[],[6],[3,4,5,6,7],[],[9],[3,4,5,6,7,8,9,10],[1,2,3,4,5,6,7,8,9,10,11],[1,2,3,4,5,6,7,8,9,10,11,12],.range 14,.range 15],.range 16⟩
  | _=>⟨.nil,[],[]⟩
theorem IB (i:Nat):BE.acts i=[]:=rfl
theorem IC (i:Nat):BE.views i=none:=rfl
attribute [go_sem] IB IC Tryz.ntmps160 Tryz.results160
@[go_sem] theorem ME:(BE.draws 5).order=hi160_5:=rfl
@[go_sem] def hi84_1:DT:=.i2 0 (.i2 1 (.i1 3 (.i1 4 (.i1 6 (.i1 7 (.i1 8 (.i1 9 (.i0 2 [3,4,6,7,8,9] (.i0 5 [6,7,8,9] (.i0 10 [6,7] (.i2 11 (.i2 12 .nil))))))))))))
def hi84:Hint where
 acts:=fun _=>[]
 draws:=fun
  | 1=>⟨hi84_1,[[],[0],[0,1],[],[3],.range 5,[],[6],[],[8],[0,1,2,3,4,5,8,9],.range 11,.range 12],.range 13⟩
  | _=>⟨.nil,[],[]⟩
theorem Kz (i:Nat):hi84.acts i=[]:=rfl
theorem KA (i:Nat):hi84.views i=none:=rfl
attribute [go_sem] Kz KA Tryz.ntmps84 Tryz.results84
@[go_sem] theorem Ny:(hi84.draws 1).order=hi84_1:=rfl
attribute [go_sem] Tryz.ntmps269 Tryz.results269
instance k269 {n:Int}:Ctr (fu n) (fun (res:Bool)=>al Tryz.prog 269 [.lit (.int .i64 n)] [] (.lit (.bool res)) []):=⟨by
 intro res h0
 refine co (hi:=hi00) Tryz.func269 rfl rfl ?_
 unfold fu at h0
 exact run⟩
attribute [go_sem] Tryz.ntmps201 Tryz.results201
instance k201 {v:List Int}:Ctr (fv v) (fun (res:Bool)=>al Tryz.prog 201 [.sl (ab eI v)] [] (.lit (.bool res)) []):=⟨by
 intro res h0
 refine co (hi:=hi00) Tryz.func201 rfl rfl ?_
 unfold fv at h0
 obtain ⟨_,h0⟩|⟨_,h0⟩:=itP h0
 ·obtain ⟨r01,g0,h0⟩:=af h0
  simp(config:=cS)only[go_sem, *]
  refine az (cT (by exact fun _ _ hr=>by have q:=ctr hr;exact q) (by refine ⟨fun _=>?_,fun _=>?_⟩ <;> simp only [go_sem]) (fun _=>rfl) rfl g0) ?_
  exact run
 ·exact run⟩
def oz (a:List Int)(d:Int)(e:List GNode)(f:List GTie)(g b:Int)(c:List Int)(h:Int):St:=⟨[(2,.ptr 128 1 0 0),(3,.ptr 192 1 0 0),(37,.sl (ab eI a)),(38,.lit (.int .i64 d)),(39,.lit (.int .i64 h))],[(128,1,.var [.sl (ab GNode.encS e),.sl (ab GTie.enc f),.lit (.int .i64 g)]),(192,1,.var [.lit (.int .i64 b),.sl (ab eI a),.sl (ab eI c)])],2⟩
attribute [go_sem] oz
def oA (a:List Int)(d:Int)(e:List GNode)(f:List GTie)(g b:Int)(c:List Int)(h:Int):St:=⟨[(2,.ptr 128 1 0 0),(3,.ptr 192 1 0 0),(67,.sl (ab eI a)),(68,.lit (.int .i64 d)),(69,.lit (.int .i64 h))],[(128,1,.var [.sl (ab GNode.encS e),.sl (ab GTie.enc f),.lit (.int .i64 g)]),(192,1,.var [.lit (.int .i64 b),.sl (ab eI c),.sl (ab eI a)])],2⟩
attribute [go_sem] oA
attribute [go_sem] Tryz.ntmps188 Tryz.results188
attribute [go_sem] Tryz.ntmps95 Tryz.results95
def pg (g:List GTie)(e b:Int)(c d:List Int):(Int × (List Int))→St
 | (f,a)=>⟨[(3,.ptr 192 1 0 0),(5,.ref 383 1 0 a.length),(9,.sl (ab GTie.enc g)),(10,.lit (.int .i64 e)),(11,.lit (.int .i64 f))],[(192,1,.var [.lit (.int .i64 b),.sl (ab eI c),.sl (ab eI d)]),(383,1,.row true (ab eI a))],2⟩
attribute [go_sem] pg
attribute [go_sem] Tryz.ntmps167 Tryz.results167
def oB (b:Int)(d:List Int)(e:Int):(Int × (List Int))→St
 | (c,a)=>⟨[(1,.lit (.int .i64 b)),(5,.ref 383 1 0 a.length),(8,.sl (ab eI d)),(9,.lit (.int .i64 e)),(10,.lit (.int .i64 c))],[(383,1,.row true (ab eI a))],2⟩
attribute [go_sem] oB
attribute [go_sem] Tryz.ntmps248 Tryz.results248
attribute [go_sem] Tryz.ntmps290 Tryz.results290
def lw (a:List (List Int))(b:Int):(Int × Int)→St
 | (d,c)=>⟨[(0,.sl (ab (eLS eI) a)),(3,.lit (.int .i64 d)),(9,.sl (ab (eLS eI) a)),(10,.lit (.int .i64 b)),(11,.lit (.int .i64 c))],[],2⟩
attribute [go_sem] lw
def lx (b:List (List Int))(c:Int):(Nat × Int × (List Int))→St
 | (a,d,e)=>⟨[(6,.ref 1536 1 0 a),(25,.sl (ab (eLS eI) b)),(26,.lit (.int .i64 c)),(27,.lit (.int .i64 d))],[(1536,1,.row true (ab eI e))],2⟩
attribute [go_sem] lx
attribute [go_sem] Tryz.ntmps247 Tryz.results247
attribute [go_sem] Tryz.ntmps318 Tryz.results318
attribute [go_sem] Tryz.ntmps292 Tryz.results292
attribute [go_sem] Tryz.ntmps334 Tryz.results334
attribute [go_sem] Tryz.ntmps314 Tryz.results314
def gp (a:Bool)(c d e:Int):(Int × (List Int))→St
 | (f,b)=>⟨[(0,.ref 10000 0 0 b.length),(1,.lit (.int .i64 c)),(2,.lit (.int .i64 d)),(6,.lit (.int .i64 e)),(7,.lit (.int .i64 f))],[(10000,0,.row a (ab eI b))],2⟩
attribute [go_sem] gp
def gq (a:Bool)(c d:Int):(Int × (List Int))→St
 | (e,b)=>⟨[(0,.ref 10000 0 0 b.length),(1,.lit (.int .i64 c)),(2,.lit (.int .i64 d)),(6,.lit (.int .i64 e))],[(10000,0,.row a (ab eI b))],2⟩
attribute [go_sem] gq
@[go_sem] def hi308_6:DT:=.r2 0 18 .nil
@[go_sem] def hi308_4:DT:=.r2 0 15 .nil
def yd:Hint where
 acts:=fun _=>[]
 draws:=fun
  | 4=>⟨hi308_4,[[],[],[0,1],[0,1,2],[0,1,2,3],[0,1,2,3],.range 6,.range 7,[0,1,2,3],[0,1,2,3],[0,1,2,3,9],[0,1,2,3,8,9,10],[0,1,2,3,8,9,10,11],.range 13,.range 14],.range 15⟩
  | 6=>⟨hi308_6,[[],[],[],[],[3],[],[],[6],[5,6,7],[5,6,7,8],[],[],[10,11],[10,11,12],[0,1,5,6,7,8,9,10,11,12,13],[0,1,5,6,7,8,9,10,11,12,13,14],.range 16,.range 17],[0,1,13,14,15,2,3,4,5,6,7,8,9,10,11,12,16,17]⟩
  | _=>⟨.nil,[],[]⟩
theorem ID (i:Nat):yd.acts i=[]:=rfl
theorem IE (i:Nat):yd.views i=none:=rfl
attribute [go_sem] ID IE Tryz.ntmps308 Tryz.results308
@[go_sem] theorem MF:(yd.draws 4).order=hi308_4:=rfl
@[go_sem] theorem MG:(yd.draws 6).order=hi308_6:=rfl
def iC (a:Bool)(c d e:Int)(b:List Int)(_:Unit):St:=⟨[(0,.ref 10000 0 0 b.length),(1,.lit (.int .i64 c)),(2,.lit (.int .i64 d)),(3,.lit (.int .i64 e)),(8,.lit (.bool true)),(9,.lit (.bool true))],[(10000,0,.row a (ab eI b))],2⟩
attribute [go_sem] iC
@[go_sem] def hi291_17:DT:=.r2 0 15 .nil
def BF:Hint where
 acts:=fun _=>[]
 draws:=fun
  | 17=>⟨hi291_17,[[],[0],[0,1],[0,1,2],[0,1,2],[0,1,2,4],.range 6,.range 7,[0,1,2],[0,1,2],[0,1,2,8,9],[0,1,2,8,9,10],.range 12,.range 13,.range 14],.range 15⟩
  | _=>⟨.nil,[],[]⟩
theorem IF (i:Nat):BF.acts i=[]:=rfl
theorem IG (i:Nat):BF.views i=none:=rfl
attribute [go_sem] IF IG Tryz.ntmps291 Tryz.results291
@[go_sem] theorem Lq:(BF.draws 17).order=hi291_17:=rfl
attribute [go_sem] Tryz.ntmps249 Tryz.results249
def oC (g:Int)(h:List GNode)(i:List GTie)(j d:Int)(e f b:List Int):(Int × (List Int) × (List Int))→St
 | (k,a,c)=>⟨[(2,.ptr 128 1 0 0),(3,.ptr 192 1 0 0),(5,.ref 383 1 0 a.length),(6,.ref 447 1 0 c.length),(20,.ref 1280 1 0 b.length),(21,.lit (.int .i64 g)),(22,.lit (.int .i64 k))],[(128,1,.var [.sl (ab GNode.encS h),.sl (ab GTie.enc i),.lit (.int .i64 j)]),(192,1,.var [.lit (.int .i64 d),.sl (ab eI e),.sl (ab eI f)]),(383,1,.row true (ab eI a)),(447,1,.row true (ab eI c)),(1280,1,.row true (ab eI b))],2⟩
attribute [go_sem] oC
def oD (a b:List Int):(Int × (List (List Int)))→St
 | (d,c)=>⟨[(5,.ref 383 1 0 a.length),(6,.ref 447 1 0 b.length),(10,.ref 703 1 0 c.length),(11,.lit (.int .i64 d))],[(383,1,.tree (ab eI a)),(447,1,.row true (ab eI b)),(703,1,.row true (ab (eLO eI) c))],2⟩
attribute [go_sem] oD
@[go_sem] def hi171_7:DT:=.r2 0 14 .nil
def BG:Hint where
 acts:=fun _=>[]
 draws:=fun
  | 7=>⟨hi171_7,[[],[0],[],[2],[],[4],[],[4,5,6],[4,5,6,7],[4,5,6,7,8],[2,3,4,5,6,7,8,9],[2,3,4,5,6,7,8,9,10],.range 12,.range 13],.range 14⟩
  | _=>⟨.nil,[],[]⟩
theorem IH (i:Nat):BG.acts i=[]:=rfl
theorem II (i:Nat):BG.views i=none:=rfl
attribute [go_sem] IH II Tryz.ntmps171 Tryz.results171
@[go_sem] theorem MH:(BG.draws 7).order=hi171_7:=rfl
def jT (c:List (List Int))(a:Nat)(b:List AV)(d e:Int):St:=⟨[(0,.sl (ab (eLS eI) c)),(1,.fn a b),(7,.lit (.int .i64 d)),(8,.lit (.int .i64 e))],[],2⟩
attribute [go_sem] jT
attribute [go_sem] Tryz.ntmps289 Tryz.results289
attribute [go_sem] Tryz.ntmps245 Tryz.results245
attribute [go_sem] Tryz.ntmps246 Tryz.results246
attribute [go_sem] Tryz.ntmps170 Tryz.results170
def pY (g:List Int)(h:Int)(i:List GNode)(j:List GTie)(k d:Int)(e f:List Int)(c:Int)(a:List Int):(Int × (List Int))→St
 | (l,b)=>⟨[(3,.ptr 192 1 0 0),(4,.ptr 256 1 0 0),(6,.ptr 384 1 0 0),(7,.ptr 448 1 0 0),(12,.sl (ab eI g)),(13,.lit (.int .i64 h)),(14,.lit (.int .i64 l))],[(192,1,.var [.sl (ab GNode.encS i),.sl (ab GTie.enc j),.lit (.int .i64 k)]),(256,1,.var [.lit (.int .i64 d),.sl (ab eI e),.sl (ab eI f)]),(384,1,.var [.lit (.int .i64 0),.lit (.slice none 0 0),.lit (.slice none 0 0)]),(448,1,.var [.lit (.int .i64 c),.ref 704 1 0 b.length,.ref 705 1 0 a.length]),(704,1,.row true (ab eI b)),(705,1,.row true (ab eI a))],2⟩
attribute [go_sem] pY
@[go_sem] def hi173_5:DT:=.r2 0 12 .nil
def BH:Hint where
 acts:=fun _=>[]
 draws:=fun
  | 5=>⟨hi173_5,[[],[0],[],[2],[],[2,3,4],[2,3,4,5],[2,3,4,5,6],[],[8],.range 10,.range 11],.range 12⟩
  | _=>⟨.nil,[],[]⟩
theorem IJ (i:Nat):BH.acts i=[]:=rfl
theorem IK (i:Nat):BH.views i=none:=rfl
attribute [go_sem] IJ IK Tryz.ntmps173 Tryz.results173
@[go_sem] theorem MI:(BH.draws 5).order=hi173_5:=rfl
attribute [go_sem] Tryz.ntmps335 Tryz.results335
attribute [go_sem] Tryz.ntmps319 Tryz.results319
def ph (b:List GNode)(c:List GTie)(d:Int):(Int × (List Int))→St
 | (i,a)=>⟨[(1,.ptr 64 1 0 0),(3,.ref 255 1 0 a.length),(4,.lit (.int .i64 i))],[(64,1,.var [.sl (ab GNode.encS b),.sl (ab GTie.enc c),.lit (.int .i64 d)]),(255,1,.row true (ab eI a))],2⟩
attribute [go_sem] ph
attribute [go_sem] Tryz.ntmps293 Tryz.results293
def jU (c:Bool)(a:Nat)(b:List AV):(Int × Int × (List Int))→St
 | (e,f,d)=>⟨[(0,.ref 10000 0 0 d.length),(1,.fn a b),(5,.lit (.int .i64 e)),(6,.lit (.int .i64 f))],[(10000,0,.row c (ab eI d))],2⟩
attribute [go_sem] jU
attribute [go_sem] Tryz.ntmps166 Tryz.results166
attribute [go_sem] Tryz.ntmps202 Tryz.results202
instance k202 {l:Int} {v:List Int}:Ctr (hP l v) (fun (res:Int)=>al Tryz.prog 202 [.lit (.int .i64 l),.sl (ab eI v)] [] (.lit (.int .i64 res)) []):=⟨by
 intro res h0
 refine co (hi:=hi00) Tryz.func202 rfl rfl ?_
 unfold hP at h0
 exact run⟩
def ir (v a:List Int)(b:Int):(Int × Int)→St
 | (c,d)=>⟨[(1,.sl (ab eI v)),(5,.lit (.int .i64 c)),(16,.sl (ab eI a)),(17,.lit (.int .i64 b)),(18,.lit (.int .i64 d))],[],2⟩
attribute [go_sem] ir
attribute [go_sem] Tryz.ntmps129 Tryz.results129
instance k129 {l:List Int} {v:List Int}:Ctr (ei l v) (fun (res:Int)=>al Tryz.prog 129 [.sl (ab eI l),.sl (ab eI v)] [] (.lit (.int .i64 res)) []):=⟨by
 intro res h0
 refine co (hi:=hi00) Tryz.func129 rfl rfl ?_
 unfold ei at h0
 obtain ⟨r01,g0,h0⟩:=af h0
 simp(config:=cS)only[go_sem, *]
 have g0:=ctr g0
 refine az g0 ?_
 obtain ⟨_,h0⟩|⟨_,h0⟩:=itB h0
 ·obtain ⟨r02,g0,h0⟩:=af h0
  simp(config:=cS)only[go_sem, *]
  have g0:=ctr g0
  refine az g0 ?_
  obtain ⟨_,h0⟩|⟨_,h0⟩:=itB h0
  ·obtain ⟨q05,l0,h0⟩:=af h0
   simp(config:=cS)only[go_sem, *]
   refine aq (m1:=.mk) (m2:=.mk) [.nf [1,5,16,17,18] []] (ir v l ((l.length:Nat):Int)) l0 ?_ ?_
   ·simp(config:=cS)only[go_sem, *]
   ·have k0:=h0
    clear h0 l0
    intro _ s0 _ h0 gb0
    obtain ⟨out_1,v18_1⟩:=s0
    unfold cY at h0
    try dsimp only at h0
    exact run
  ·exact run
 ·exact run⟩
@[go_sem] def hi261_1:DT:=.r2 0 10 .nil
def BI:Hint where
 acts:=fun _=>[]
 draws:=fun
  | 1=>⟨hi261_1,[[],[0],[],[0,1,2],[0,1,2,3],.range 5,[],[6],.range 8,.range 9],.range 10⟩
  | _=>⟨.nil,[],[]⟩
theorem IL (i:Nat):BI.acts i=[]:=rfl
theorem IM (i:Nat):BI.views i=none:=rfl
attribute [go_sem] IL IM Tryz.ntmps261 Tryz.results261
@[go_sem] theorem MJ:(BI.draws 1).order=hi261_1:=rfl
attribute [go_sem] Tryz.ntmps294 Tryz.results294
attribute [go_sem] Tryz.ntmps250 Tryz.results250
def mV (a:List Int):(Int × (List (List Int)))→St
 | (c,b)=>⟨[(5,.ref 640 1 0 a.length),(6,.ref 447 1 0 b.length),(7,.lit (.int .i64 c))],[(640,1,.row false (ab eI a)),(447,1,.row true (ab (eLO eI) b))],2⟩
attribute [go_sem] mV
attribute [go_sem] Tryz.ntmps174 Tryz.results174
def oE (h:List Int)(i:Int)(j:List GNode)(k:List GTie)(l e:Int)(f g:List Int)(d:Int)(b:List Int):(Int × (List Int) × (List Int))→St
 | (m,a,c)=>⟨[(3,.ptr 192 1 0 0),(4,.ptr 256 1 0 0),(6,.ptr 384 1 0 0),(8,.ptr 512 1 0 0),(9,.ref 639 1 0 a.length),(14,.sl (ab eI h)),(15,.lit (.int .i64 i)),(16,.lit (.int .i64 m))],[(192,1,.var [.sl (ab GNode.encS j),.sl (ab GTie.enc k),.lit (.int .i64 l)]),(256,1,.var [.lit (.int .i64 e),.sl (ab eI f),.sl (ab eI g)]),(384,1,.var [.lit (.int .i64 0),.lit (.slice none 0 0),.lit (.slice none 0 0)]),(512,1,.var [.lit (.int .i64 d),.ref 832 1 0 c.length,.ref 833 1 0 b.length]),(832,1,.row true (ab eI c)),(833,1,.row true (ab eI b)),(639,1,.row true (ab eI a))],2⟩
attribute [go_sem] oE
attribute [go_sem] Tryz.ntmps175 Tryz.results175
def nF (a e:List Int)(f d:Int)(b:List Int):(Int × (List Int))→St
 | (g,c)=>⟨[(2,.sl (ab eI a)),(6,.ptr 384 1 0 0),(7,.ptr 448 1 0 0),(12,.sl (ab eI e)),(13,.lit (.int .i64 f)),(14,.lit (.int .i64 g))],[(384,1,.var [.lit (.int .i64 0),.lit (.slice none 0 0),.lit (.slice none 0 0)]),(448,1,.var [.lit (.int .i64 d),.ref 704 1 0 b.length,.ref 705 1 0 c.length]),(704,1,.row true (ab eI b)),(705,1,.row true (ab eI c))],2⟩
attribute [go_sem] nF
@[go_sem] def hi177_5:DT:=.r2 0 10 .nil
def BJ:Hint where
 acts:=fun _=>[]
 draws:=fun
  | 5=>⟨hi177_5,[[],[0],[],[2],[],[],[4,5],[4,5,6],.range 8,.range 9],.range 10⟩
  | _=>⟨.nil,[],[]⟩
theorem IP (i:Nat):BJ.acts i=[]:=rfl
theorem IQ (i:Nat):BJ.views i=none:=rfl
attribute [go_sem] IP IQ Tryz.ntmps177 Tryz.results177
@[go_sem] theorem MK:(BJ.draws 5).order=hi177_5:=rfl
def pZ (g:List Int)(h e:Int)(b c d:List Int):(Int × (List Int) × (List Int))→St
 | (i,f,a)=>⟨[(6,.ptr 384 1 0 0),(9,.ptr 576 1 0 0),(10,.ref 3458 1 0 d.length),(11,.ref 767 1 0 f.length),(12,.ref 831 1 0 a.length),(58,.sl (ab eI g)),(59,.lit (.int .i64 h)),(60,.lit (.int .i64 i))],[(384,1,.var [.lit (.int .i64 0),.lit (.slice none 0 0),.lit (.slice none 0 0)]),(576,1,.var [.lit (.int .i64 e),.ref 3456 1 0 b.length,.ref 3457 1 0 c.length]),(3456,1,.row true (ab eI b)),(3457,1,.row true (ab eI c)),(3458,1,.row true (ab eI d)),(767,1,.row true (ab eI f)),(831,1,.row true (ab eI a))],2⟩
attribute [go_sem] pZ
@[go_sem] def hi88_4:DT:=.i2 0 (.i2 1 (.i1 3 (.i1 4 (.i0 2 [3,4] (.i2 5 (.i2 6 .nil))))))
@[go_sem] def hi88_1:DT:=.r2 0 8 (.i1 9 (.i1 10 (.i0 8 [9,10] (.r2 11 9 .nil))))
def hi88:Hint where
 acts:=fun _=>[]
 draws:=fun
  | 1=>⟨hi88_1,[[],[0],[],[2],[0,1,2,3],.range 5,.range 6,.range 6,.range 8,.range 6,[0,1,2,3,4,5,9],.range 11,.range 12,.range 13,.range 14,.range 15,.range 16,.range 17,.range 18,.range 19],.range 20⟩
  | 4=>⟨hi88_4,[[],[],[0,1],[],[3],.range 5,.range 6],.range 7⟩
  | _=>⟨.nil,[],[]⟩
theorem KB (i:Nat):hi88.acts i=[]:=rfl
theorem KD (i:Nat):hi88.views i=none:=rfl
attribute [go_sem] KB KD Tryz.ntmps88 Tryz.results88
@[go_sem] theorem Nz:(hi88.draws 1).order=hi88_1:=rfl
@[go_sem] theorem NA:(hi88.draws 4).order=hi88_4:=rfl
def mW (d:List ap)(e:Int)(f:List GNode)(g:List GTie)(h:Int):(Int × Int × (List Int) × (List Int))→St
 | (i,c,a,b)=>⟨[(2,.ptr 128 1 0 0),(4,.ptr 256 1 0 0),(6,.ptr 384 1 0 0),(17,.sl (ab ap.encS d)),(18,.lit (.int .i64 e)),(19,.lit (.int .i64 i))],[(128,1,.var [.sl (ab GNode.encS f),.sl (ab GTie.enc g),.lit (.int .i64 h)]),(256,1,.var [.lit (.int .i64 0),.lit (.slice none 0 0),.lit (.slice none 0 0)]),(384,1,.var [.lit (.int .i64 c),.ref 1024 1 0 a.length,.ref 1025 1 0 b.length]),(1024,1,.row true (ab eI a)),(1025,1,.row true (ab eI b))],2⟩
attribute [go_sem] mW
attribute [go_sem] Tryz.ntmps28 Tryz.results28
attribute [go_sem] Tryz.ntmps30 Tryz.results30
attribute [go_sem] Tryz.ntmps75 Tryz.results75
@[go_sem] def hi168_1:DT:=.i1 0 (.i1 1 (.i1 2 (.i1 3 (.i1 4 (.i1 5 (.i2 6 (.i1 7 (.i1 8 (.i1 9 (.i1 10 (.i1 11 (.i2 12 (.i1 13 (.i1 14 (.i2 15 (.i2 16 (.i0 17 [0,1,2,3,4,5,7,8,9,10,11,13,14] (.r2 18 4 .nil))))))))))))))))))
def BK:Hint where
 acts:=fun _=>[]
 draws:=fun
  | 1=>⟨hi168_1,[[],[0],[],[2],[],[4],[],[4,5,6],[4,5,6,7],[4,5,6,7,8],[2,3,4,5,6,7,8,9],[2,3,4,5,6,7,8,9,10],.range 12,[],[13],[],[],[15,16],[13,14,15,16,17],[13,14,15,16,17,18],.range 20,.range 21],.range 22⟩
  | _=>⟨.nil,[],[]⟩
theorem IR (i:Nat):BK.acts i=[]:=rfl
theorem IS (i:Nat):BK.views i=none:=rfl
attribute [go_sem] IR IS Tryz.ntmps168 Tryz.results168
@[go_sem] theorem ML:(BK.draws 1).order=hi168_1:=rfl
attribute [go_sem] Tryz.ntmps87 Tryz.results87
attribute [go_sem] Tryz.ntmps240 Tryz.results240
@[go_sem] def hi260_1:DT:=.r2 0 14 .nil
def BL:Hint where
 acts:=fun _=>[]
 draws:=fun
  | 1=>⟨hi260_1,[[],[0],[],[2],[0,1,2,3],.range 5,[],[6],[],[8],[6,7,8,9],[6,7,8,9,10],.range 6,.range 13],[0,1,2,3,4,5,7,8,9,10,11,12,6,13]⟩
  | _=>⟨.nil,[],[]⟩
theorem IT (i:Nat):BL.acts i=[]:=rfl
theorem IU (i:Nat):BL.views i=none:=rfl
attribute [go_sem] IT IU Tryz.ntmps260 Tryz.results260
@[go_sem] theorem MM:(BL.draws 1).order=hi260_1:=rfl
attribute [go_sem] Tryz.ntmps259 Tryz.results259
def oF (c:List Int)(h:Int)(d:List GNode)(e:List GTie)(f a:Int)(b:List Int)(g:Int):St:=⟨[(2,.ptr 128 1 0 0),(3,.ptr 192 1 0 0),(8,.sl (ab eI c)),(9,.lit (.int .i64 h)),(10,.lit (.int .i64 g))],[(128,1,.var [.sl (ab GNode.encS d),.sl (ab GTie.enc e),.lit (.int .i64 f)]),(192,1,.var [.lit (.int .i64 a),.sl (ab eI c),.sl (ab eI b)])],2⟩
attribute [go_sem] oF
attribute [go_sem] Tryz.ntmps190 Tryz.results190
attribute [go_sem] Tryz.ntmps189 Tryz.results189
attribute [go_sem] Tryz.ntmps96 Tryz.results96
def sS (a:List Int)(e c:Int)(d:List Int):(Int × (List Int))→St
 | (f,b)=>⟨[(1,.ptr 64 1 0 0),(3,.ref 704 1 0 b.length),(13,.sl (ab eI a)),(14,.lit (.int .i64 e)),(15,.lit (.int .i64 f))],[(64,1,.var [.lit (.int .i64 c),.sl (ab eI a),.sl (ab eI d)]),(704,1,.row true (ab (eK .u8) b))],2⟩
attribute [go_sem] sS
def sT (b:List Int)(c:Int):(Int × (List Int))→St
 | (d,a)=>⟨[(3,.ref 704 1 0 a.length),(27,.sl (ab eI b)),(28,.lit (.int .i64 c)),(29,.lit (.int .i64 d))],[(704,1,.row true (ab (eK .u8) a))],2⟩
attribute [go_sem] sT
attribute [go_sem] Tryz.ntmps191 Tryz.results191
def kJ (a:List Int)(b c:Int):St:=⟨[(0,.sl (ab eI a)),(9,.sl (ab eI a)),(10,.lit (.int .i64 b)),(11,.lit (.int .i64 c))],[],2⟩
attribute [go_sem] kJ
def kK (b:List Int)(n d:Int)(c:List (List Int)):(Int × (List Int))→St
 | (e,a)=>⟨[(0,.sl (ab eI b)),(5,.ref 383 1 0 c.length),(6,.lit (.int .i64 n)),(7,.ref 511 1 0 a.length),(44,.lit (.int .i64 d)),(45,.lit (.int .i64 e))],[(383,1,.row true (ab (eLO eI) c)),(511,1,.row true (ab eI a))],2⟩
attribute [go_sem] kK
def kL (a:List Int):(Int × (List (List Int)))→St
 | (n,b)=>⟨[(0,.sl (ab eI a)),(5,.ref 383 1 0 b.length),(6,.lit (.int .i64 n))],[(383,1,.row true (ab (eLO eI) b))],2⟩
attribute [go_sem] kL
attribute [go_sem] Tryz.ntmps288 Tryz.results288
def lR (g d:Int)(a b c:List Int)(f:List (List Int))(h:List GNode)(i:List GTie)(j:Int):(Int × (List (ByteArray × Bool)))→St
 | (k,e)=>⟨[(0,.ptr 10000 0 0 0),(7,.ptr 448 1 0 0),(8,.ref 1154 1 0 c.length),(22,.ref 1408 1 0 f.length),(23,.lit (.int .i64 g)),(24,.lit (.int .i64 k))],[(10000,0,.var [.sl (ab GNode.encS h),.sl (ab GTie.enc i),.lit (.int .i64 j),.mp 10001 0]),(10001,0,.map (eM e)),(448,1,.var [.lit (.int .i64 d),.ref 1152 1 0 a.length,.ref 1153 1 0 b.length]),(1152,1,.row true (ab eI a)),(1153,1,.row true (ab eI b)),(1154,1,.row true (ab eI c)),(1408,1,.tree (ab (eLS eI) f))],2⟩
attribute [go_sem] lR
@[go_sem] def hi242_1:DT:=.i2 0 (.i1 1 (.i1 2 (.i1 3 (.i1 4 (.i2 5 (.fork (.i2 6 (.i2 7 (.i2 8 (.i2 9 (.i0 10 [1,2,3,4] (.i2 11 (.i2 12 .nil))))))) (.i0 10 [1,2,3,4] (.i2 6 (.i2 7 (.i2 8 (.i2 9 (.i2 11 (.i2 12 .nil)))))))))))))
def BM:Hint where
 acts:=fun _=>[]
 draws:=fun
  | 1=>⟨hi242_1,[[],[0],[0,1],[0,1,2],[],[],.range 6,.range 7,.range 8,.range 8,[],[0,1,2,3,4,5,6,7,8,10],.range 12],[0,1,2,3,4,5,6,7,8,11,9,10,12]⟩
  | _=>⟨.nil,[],[]⟩
@[go_sem] theorem NB (i:Nat):BM.acts i=[]:=rfl
theorem IV (i:Nat):BM.views i=none:=rfl
attribute [go_sem] IV Tryz.ntmps242 Tryz.results242
@[go_sem] theorem MN:(BM.draws 1).order=hi242_1:=rfl
def mf (f c:Int)(d e:List Int)(b:List (List Int))(g:List GNode)(h:List GTie)(i:Int):(Int × (List (ByteArray × Bool)))→St
 | (j,a)=>⟨[(0,.ptr 10000 0 0 0),(3,.ptr 192 1 0 0),(13,.ref 832 1 0 b.length),(14,.lit (.int .i64 f)),(15,.lit (.int .i64 j))],[(10000,0,.var [.sl (ab GNode.encS g),.sl (ab GTie.enc h),.lit (.int .i64 i),.mp 10001 0]),(10001,0,.map (eM a)),(192,1,.var [.lit (.int .i64 c),.sl (ab eI d),.sl (ab eI e)]),(832,1,.tree (ab (eLS eI) b))],2⟩
attribute [go_sem] mf
@[go_sem] def hi163_1:DT:=.r2 0 5 (.i2 7 (.i2 5 (.i2 6 .nil)))
def BN:Hint where
 acts:=fun _=>[]
 draws:=fun
  | 1=>⟨hi163_1,[[],[0],[0,1],[0,1,2],[],.range 5,.range 6,[]],.range 8⟩
  | _=>⟨.nil,[],[]⟩
@[go_sem] theorem NC (i:Nat):BN.acts i=[]:=rfl
theorem IW (i:Nat):BN.views i=none:=rfl
attribute [go_sem] IW Tryz.ntmps163 Tryz.results163
@[go_sem] theorem MO:(BN.draws 1).order=hi163_1:=rfl
def mX (k:ByteArray)(f c:Int)(d e:List Int)(b:List (List Int))(g:List GNode)(h:List GTie)(i:Int):(Int × (List (ByteArray × Bool)))→St
 | (j,a)=>⟨[(0,.ptr 10000 0 0 0),(3,.ptr 192 1 0 0),(5,.lit (.string k)),(8,.lit (.bool true)),(45,.ref 2880 1 0 b.length),(46,.lit (.int .i64 f)),(47,.lit (.int .i64 j))],[(10000,0,.var [.sl (ab GNode.encS g),.sl (ab GTie.enc h),.lit (.int .i64 i),.mp 10001 0]),(10001,0,.map (eM a)),(192,1,.var [.lit (.int .i64 c),.sl (ab eI d),.sl (ab eI e)]),(2880,1,.tree (ab (eLS eI) b))],2⟩
attribute [go_sem] mX
@[go_sem] def hi97_13:DT:=.r2 0 14 .nil
@[go_sem] def hi97_10:DT:=.r2 0 5 (.i2 7 (.i2 5 (.i2 6 .nil)))
@[go_sem] def hi97_3:DT:=.r2 0 7 .nil
@[go_sem] def hi97_1:DT:=.r2 0 7 .nil
def hi97:Hint where
 acts:=fun _=>[]
 draws:=fun
  | 1=>⟨hi97_1,[[],[0],[0,1],[0,1,2],[],.range 5,.range 6],.range 7⟩
  | 3=>⟨hi97_3,[[],[0],[0,1],[0,1,2],[],.range 5,.range 6],.range 7⟩
  | 10=>⟨hi97_10,[[],[0],[0,1],[0,1,2],[],.range 5,.range 6,[]],.range 8⟩
  | 13=>⟨hi97_13,[[],[],[1],[1,2],[1,2,3],[],[],[1,2,3,4,5,6],.range 8,.range 9,.range 10,.range 10,.range 11,.range 13],[0,1,2,3,4,5,6,7,8,9,10,12,11,13]⟩
  | _=>⟨.nil,[],[]⟩
@[go_sem] theorem Oj (i:Nat):hi97.acts i=[]:=rfl
theorem KE (i:Nat):hi97.views i=none:=rfl
attribute [go_sem] KE Tryz.ntmps97 Tryz.results97
@[go_sem] theorem ND:(hi97.draws 1).order=hi97_1:=rfl
@[go_sem] theorem NE:(hi97.draws 3).order=hi97_3:=rfl
@[go_sem] theorem MP:(hi97.draws 10).order=hi97_10:=rfl
@[go_sem] theorem MQ:(hi97.draws 13).order=hi97_13:=rfl
attribute [go_sem] Tryz.ntmps244 Tryz.results244
def eG (h:Bool)(j:Int)(i:List (List Int))(a:List GNode)(b:List GTie)(c d:Int)(e f:List Int):(Int × (List (ByteArray × Bool)))→St
 | (k,g)=>⟨[(0,.ref 10000 0 0 i.length),(1,.fn 244 [.ptr 10001 0 0 0,.ptr 10004 0 0 0]),(7,.lit (.int .i64 j)),(8,.lit (.int .i64 k))],[(10000,0,.row h (ab (eLS eI) i)),(10001,0,.var [.ptr 10002 0 0 0]),(10002,0,.var [.sl (ab GNode.encS a),.sl (ab GTie.enc b),.lit (.int .i64 c),.mp 10003 0]),(10003,0,.map (eM g)),(10004,0,.var [.lit (.int .i64 d),.sl (ab eI e),.sl (ab eI f)])],2⟩
attribute [go_sem] eG
attribute [go_sem] Tryz.ntmps289 Tryz.results289
def ey (i:Bool)(h:Nat)(a:List GNode)(b:List GTie)(c d:Int)(e f:List Int):(Int × Int × (List (List Int)) × (List (ByteArray × Bool)))→St
 | (j,k,l,g)=>⟨[(0,.ref 10000 0 0 h),(1,.fn 244 [.ptr 10001 0 0 0,.ptr 10004 0 0 0]),(5,.lit (.int .i64 j)),(6,.lit (.int .i64 k))],[(10000,0,.row i (ab (eLS eI) l)),(10001,0,.var [.ptr 10002 0 0 0]),(10002,0,.var [.sl (ab GNode.encS a),.sl (ab GTie.enc b),.lit (.int .i64 c),.mp 10003 0]),(10003,0,.map (eM g)),(10004,0,.var [.lit (.int .i64 d),.sl (ab eI e),.sl (ab eI f)])],2⟩
attribute [go_sem] ey
def bJ:Hint where
 acts:=fun i=>match i with | 0=>[.frIn 10000] | _=>[]
 draws:=fun
  | _=>⟨.nil,[],[]⟩
@[go_sem] theorem IX:bJ.acts 0=[.frIn 10000]:=rfl
@[go_sem] theorem IY:bJ.acts 1=[]:=rfl
@[go_sem] theorem IZ:bJ.acts 2=[]:=rfl
@[go_sem] theorem Ja:bJ.acts 3=[]:=rfl
@[go_sem] theorem Jb:bJ.acts 4=[]:=rfl
@[go_sem] theorem Jc:bJ.acts 5=[]:=rfl
@[go_sem] theorem Jd:bJ.acts 7=[]:=rfl
@[go_sem] theorem Je:bJ.acts 8=[]:=rfl
@[go_sem] theorem Jf:bJ.acts 9=[]:=rfl
@[go_sem] theorem GC:bJ.acts 10=[]:=rfl
@[go_sem] theorem Jg:bJ.acts 6=[]:=rfl
@[go_sem] theorem GD:bJ.acts 11=[]:=rfl
@[go_sem] theorem GE:bJ.acts 12=[]:=rfl
theorem zQ (i:Nat):bJ.views i=none:=rfl
attribute [go_sem] zQ Tryz.ntmps243 Tryz.results243
@[go_sem] def hi165_1:DT:=.r2 0 5 (.i2 6 (.i2 5 (.i2 7 (.i2 8 .nil))))
def BO:Hint where
 acts:=fun _=>[]
 draws:=fun
  | 1=>⟨hi165_1,[[],[0],[0,1],[0,1,2],[],.range 5,[],.range 7,.range 8],.range 9⟩
  | _=>⟨.nil,[],[]⟩
theorem Jh (i:Nat):BO.acts i=[]:=rfl
theorem Ji (i:Nat):BO.views i=none:=rfl
attribute [go_sem] Jh Ji Tryz.ntmps165 Tryz.results165
@[go_sem] theorem MR:(BO.draws 1).order=hi165_1:=rfl
attribute [go_sem] Tryz.ntmps164 Tryz.results164
attribute [go_sem] Tryz.ntmps162 Tryz.results162
def nG (a d:List Int)(e:Int):(Int × (List Int))→St
 | (c,b)=>⟨[(1,.sl (ab eI a)),(5,.ref 383 1 0 b.length),(8,.sl (ab eI d)),(9,.lit (.int .i64 e)),(10,.lit (.int .i64 c))],[(383,1,.row true (ab eI b))],2⟩
attribute [go_sem] nG
attribute [go_sem] Tryz.ntmps241 Tryz.results241
def fY (s h l:List Int)(t m n:Int)(o:Bool)(p:Int)(q r:List Int)(i:Int)(a:List GNode)(b:List GTie)(c d:List Int)(e:List ap)(f g j:List Int):(Int × (List Int))→St
 | (u,k)=>⟨[(1,.sl (ab eI s)),(2,.sl (ab eI h)),(10,.ptr 640 1 0 0),(13,.ptr 832 1 0 0),(15,.ptr 960 1 0 0),(17,.sl (ab eI l)),(19,.ptr 1216 1 0 0),(20,.ref 5506 1 0 j.length),(21,.ref 1407 1 0 k.length),(89,.ref 5506 1 0 j.length),(90,.lit (.int .i64 t)),(91,.lit (.int .i64 u))],[(640,1,.var [.lit (.slice none 0 0),.lit (.slice none 0 0),.lit (.int .i64 0),.lit (.int .i64 0),.lit (.slice none 0 0),.lit (.slice none 0 0),.lit (.bool false),.lit (.slice none 0 0)]),(832,1,.var [.ref 1600 1 0 a.length,.ref 1601 1 0 b.length,.lit (.int .i64 m),.lit (.int .i64 n),.ref 1602 1 0 c.length,.ref 1603 1 0 d.length,.lit (.bool o),.ref 1604 1 0 e.length]),(1600,1,.row true (ab GNode.encO a)),(1601,1,.row true (ab GTie.enc b)),(1602,1,.row true (ab eI c)),(1603,1,.row true (ab eI d)),(1604,1,.row true (ab ap.encO e)),(960,1,.var [.lit (.int .i64 p),.sl (ab eI q),.sl (ab eI r)]),(1216,1,.var [.lit (.int .i64 i),.ref 5504 1 0 f.length,.ref 5505 1 0 g.length]),(5504,1,.row true (ab eI f)),(5505,1,.row true (ab eI g)),(5506,1,.row true (ab eI j)),(1407,1,.row true (ab eI k))],2⟩
attribute [go_sem] fY
@[go_sem] def hi161_s162_22:DT:=.i1 0 (.i2 1 (.i0 2 [0] (.r2 3 3 .nil)))
@[go_sem] def hi161_s162_21:DT:=.i1 0 (.i1 1 (.i1 2 (.i1 3 (.i2 4 (.i2 6 (.i2 8 (.i2 9 (.i0 5 [0,1,2,3] (.i0 7 [0,1,2,3] (.i0 10 [0,1,2,3] (.i2 11 (.i0 12 [0,1] (.r2 13 3 .nil)))))))))))))
@[go_sem] def hi161_s162_10:DT:=.i2 0 (.i2 1 (.i1 3 (.i0 2 [3] (.r2 4 6 .nil))))
@[go_sem] def hi161_s162_4:DT:=.i1 0 (.i1 1 (.i1 2 (.i1 3 (.fork (.i0 4 [0,1,2,3] (.i0 5 [0,1,2,3] (.i0 6 [2,3] (.i2 7 .nil)))) (.i0 5 [0,1,2,3] (.i0 4 [0,1,2,3] (.i0 6 [2,3] (.i2 7 .nil))))))))
def ig:Hint where
 acts:=fun _=>[]
 draws:=fun
  | 4=>⟨hi161_s162_4,[[],[0],[],[2],[],[],[0,1,4,5],.range 7],[0,1,5,6,2,3,4,7]⟩
  | 10=>⟨hi161_s162_10,[[],[],[1],[],[0,1,2,3],.range 5,.range 6,.range 6,.range 7,.range 9],[0,1,2,3,4,5,6,8,7,9]⟩
  | 21=>⟨hi161_s162_21,[[],[0],[],[2],[],[4],[],[4,5,6],[],[],[4,5,6,7,8,9],[2,3,4,5,6,7,8,9,10],[2,3,4,5,6,7,8,9,10,11],.range 13,.range 14,.range 15],.range 16⟩
  | 22=>⟨hi161_s162_22,[[],[],[1],[0,1,2],[0,1,2,3],.range 5],.range 6⟩
  | _=>⟨.nil,[],[]⟩
theorem zR (i:Nat):ig.acts i=[]:=rfl
theorem zS (i:Nat):ig.views i=none:=rfl
attribute [go_sem] zR zS Tryz.ntmps161 Tryz.results161
@[go_sem] theorem Jj:(ig.draws 4).order=hi161_s162_4:=rfl
@[go_sem] theorem GF:(ig.draws 10).order=hi161_s162_10:=rfl
@[go_sem] theorem GG:(ig.draws 21).order=hi161_s162_21:=rfl
@[go_sem] theorem GH:(ig.draws 22).order=hi161_s162_22:=rfl
attribute [go_sem] Tryz.ntmps86 Tryz.results86
def oG (i j:List Int):(Int × Int × Bool × (List GNode) × (List GTie) × (List Int) × (List Int) × (List ap))→St
 | (f,g,h,a,b,c,d,e)=>⟨[(3,.ptr 192 1 0 0),(4,.ptr 256 1 0 0),(6,.ptr 384 1 0 0)],[(192,1,.var [.sl (ab eI i),.sl (ab eI j)]),(256,1,.var [.lit (.slice none 0 0),.lit (.slice none 0 0),.lit (.int .i64 0),.lit (.int .i64 0),.lit (.slice none 0 0),.lit (.slice none 0 0),.lit (.bool false),.lit (.slice none 0 0)]),(384,1,.var [.ref 704 1 0 a.length,.ref 705 1 0 b.length,.lit (.int .i64 f),.lit (.int .i64 g),.ref 706 1 0 c.length,.ref 707 1 0 d.length,.lit (.bool h),.ref 708 1 0 e.length]),(704,1,.row true (ab GNode.encO a)),(705,1,.row true (ab GTie.enc b)),(706,1,.row true (ab eI c)),(707,1,.row true (ab eI d)),(708,1,.row true (ab ap.encO e))],2⟩
attribute [go_sem] oG
@[go_sem] def hi27_4:DT:=.i1 0 (.i1 1 (.i1 2 (.i1 3 (.i1 4 (.i1 5 (.i1 7 (.i1 8 (.fork (.i0 6 [0,7,8] (.fork (.i2 9 (.i2 10 (.i2 11 (.i2 12 (.i2 13 (.i0 14 [0,1,2,3,4,5,7,8] (.i2 15 (.i2 16 (.i2 17 .nil))))))))) (.i0 14 [0,1,2,3,4,5,7,8] (.i2 9 (.i2 10 (.i2 11 (.i2 12 (.i2 13 (.i2 15 (.i2 16 (.i2 17 .nil))))))))))) (.i0 14 [0,1,2,3,4,5,7,8] (.i0 6 [0,7,8] (.i2 9 (.i2 10 (.i2 11 (.i2 12 (.i2 13 (.i2 15 (.i2 16 (.i2 17 .nil))))))))))))))))))
def hi27:Hint where
 acts:=fun _=>[]
 draws:=fun
  | 4=>⟨hi27_4,[[],[],[1],[],[3],[],[1,2,3,4,5],[],[7],.range 9,.range 10,.range 11,.range 11,.range 11,[],[0,1,2,3,4,5,6,7,8,9,10,11,14],[0,1,2,3,4,5,6,7,8,9,10,11,12,14,15],.range 17],[0,1,2,3,4,5,6,7,8,9,10,11,14,16,12,13,15,17]⟩
  | _=>⟨.nil,[],[]⟩
theorem KF (i:Nat):hi27.acts i=[]:=rfl
theorem KG (i:Nat):hi27.views i=none:=rfl
attribute [go_sem] KF KG Tryz.ntmps27 Tryz.results27
@[go_sem] theorem NF:(hi27.draws 4).order=hi27_4:=rfl
attribute [go_sem] Tryz.ntmps99 Tryz.results99
attribute [go_sem] Tryz.ntmps36 Tryz.results36
attribute [go_sem] Tryz.ntmps59 Tryz.results59
instance k59 {s:GShow} {v1:GChoice}:Ctr (dU s v1) (fun (res:Bool)=>al Tryz.prog 59 [.agg (GShow.encS s),.agg [.sl (ab eI v1.lengths),.sl (ab eI v1.values)]] [] (.lit (.bool res)) []):=⟨by
 intro res h0
 refine co (hi:=hi00) Tryz.func59 rfl rfl ?_
 unfold dU at h0
 exact run⟩
@[go_sem] def hi61_1:DT:=.r2 0 11 .nil
def hi61:Hint where
 acts:=fun _=>[]
 draws:=fun
  | 1=>⟨hi61_1,[[],[0],[],[0,1,2],[0,1,2,3],.range 5,[],[6],.range 8,.range 9,.range 10],.range 11⟩
  | _=>⟨.nil,[],[]⟩
theorem KH (i:Nat):hi61.acts i=[]:=rfl
theorem KI (i:Nat):hi61.views i=none:=rfl
attribute [go_sem] KH KI Tryz.ntmps61 Tryz.results61
@[go_sem] theorem NG:(hi61.draws 1).order=hi61_1:=rfl
instance k61 {s:GShow} {v1:GChoice} {node:Int}:Ctr (bG s v1 node) (fun (res:Bool)=>al Tryz.prog 61 [.agg (GShow.encS s),.agg [.sl (ab eI v1.lengths),.sl (ab eI v1.values)],.lit (.int .i64 node)] [] (.lit (.bool res)) []):=⟨by
 intro res h0
 refine co (hi:=hi61) Tryz.func61 rfl rfl ?_
 unfold bG at h0
 exact run⟩
attribute [go_sem] Tryz.ntmps203 Tryz.results203
instance k203 {from_:Int} {to:Int} {low:Int} {high:Int} {reason:ByteArray} {out:ag} {reasons:List ByteArray}:Ctr (bo from_ to low high reason out reasons) (fun (res:ag × (List ByteArray))=>al Tryz.prog 203 [.lit (.int .i64 from_),.lit (.int .i64 to),.lit (.int .i64 low),.lit (.int .i64 high),.lit (.string reason),.ptr 10000 0 0 0,.ptr 10002 0 0 0] [(10000,0,.var [.lit (.int .i64 out.events),.ref 10001 0 0 out.links.length]),(10001,0,.row true (ab GLink.enc out.links)),(10002,0,.var [.ref 10003 0 0 reasons.length]),(10003,0,.row true (ab eS reasons))] (.tup []) [(10000,0,.var [.lit (.int .i64 res.1.events),.ref 20000 1 0 res.1.links.length]),(10002,0,.var [.ref 20001 1 0 res.2.length]),(20000,1,.row true (ab GLink.enc res.1.links)),(20001,1,.row true (ab eS res.2))]):=⟨by
 intro res h0
 refine co (hi:=hi00) Tryz.func203 rfl rfl ?_
 unfold bo at h0
 exact run⟩
attribute [go_sem] Tryz.ntmps110 Tryz.results110
instance k110 {n:Int}:Ctr (bS n) (fun (res:ByteArray)=>al Tryz.prog 110 [.lit (.int .i64 n)] [] (.lit (.string res)) []):=⟨by
 intro res h0
 refine co (hi:=hi00) Tryz.func110 rfl rfl ?_
 unfold bS at h0
 obtain ⟨r01,g0,h0⟩:=af h0
 simp(config:=cS)only[go_sem, *]
 refine az (wH g0) ?_
 exact run⟩
attribute [go_sem] Tryz.ntmps109 Tryz.results109
instance k109 {l:List ByteArray} {by_:ByteArray}:Ctr (fF l by_) (fun (res:ByteArray)=>al Tryz.prog 109 [.sl (ab eS l),.lit (.string by_)] [] (.lit (.string res)) []):=⟨by
 intro res h0
 refine co (hi:=hi00) Tryz.func109 rfl rfl ?_
 unfold fF at h0
 obtain ⟨r01,g0,h0⟩:=af h0
 simp(config:=cS)only[go_sem, *]
 refine az (wI g0) ?_
 exact run⟩
@[go_sem] def hi204_5:DT:=.i2 0 (.i1 1 (.i1 2 (.i1 3 (.i1 4 (.i1 5 (.i1 6 (.i1 7 (.i1 8 (.i1 9 (.i1 10 (.i1 11 (.i1 12 (.i1 13 (.i1 14 (.i2 15 (.i2 16 (.i1 18 (.i1 19 (.i0 17 [1,2,3,4,5,6,7,8,9,10,11,12,13,14,18,19] (.i0 20 [1,2,3,4,5,6,7,8,9,10,11,12,13,14] (.r2 21 3 .nil)))))))))))))))))))))
def ye:Hint where
 acts:=fun _=>[]
 draws:=fun
  | 5=>⟨hi204_5,[[],[],[1],[],[3],[1,2,3,4],[1,2,3,4,5],[1,2,3,4,5,6],[],[8],[],[10],[8,9,10,11],[8,9,10,11,12],[8,9,10,11,12,13],[],[15],[15,16],[],[18],[15,16,17,18,19],.range 21,.range 22,.range 23],.range 24⟩
  | _=>⟨.nil,[],[]⟩
theorem Jk (i:Nat):ye.acts i=[]:=rfl
theorem Jl (i:Nat):ye.views i=none:=rfl
attribute [go_sem] Jk Jl Tryz.ntmps204 Tryz.results204
@[go_sem] theorem MS:(ye.draws 5).order=hi204_5:=rfl
instance k204 {s:GShow} {i:Int}:Ctr (eJ s i) (fun (res:ByteArray)=>al Tryz.prog 204 [.agg (GShow.encS s),.lit (.int .i64 i)] [] (.lit (.string res)) []):=⟨by
 intro res h0
 refine co (hi:=ye) Tryz.func204 rfl rfl ?_
 unfold eJ at h0
 exact run⟩
end Go.Proofs.Qa
