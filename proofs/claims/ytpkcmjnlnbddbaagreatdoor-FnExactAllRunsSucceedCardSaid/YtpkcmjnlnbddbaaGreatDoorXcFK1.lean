/- Functions. -/
import Derived.Test.YtpkcmjnlnbddbaaGreatDoorXcFK0
set_option linter.all false
set_option maxRecDepth 100000
set_option maxHeartbeats 4000000
namespace Go.Proofs.Qc
open Go Tryz
def mc (c:List GTie)(a:Nat)(b:List AV)(d e:Int):St:=⟨[(0,.sl (ab GTie.enc c)),(1,.fn a b),(7,.lit (.int .i64 d)),(8,.lit (.int .i64 e))],[],2⟩
attribute[go_sem] mc
attribute[go_sem] ntmps276 results276 ntmps225 results225 ntmps226 results226 ntmps227 results227 ntmps144 results144 ntmps230 results230 ntmps231 results231 ntmps148 results148 ntmps169 results169 ntmps228 results228 ntmps277 results277 ntmps229 results229 ntmps145 results145 ntmps70 results70 ntmps147 results147 ntmps158 results158 ntmps60 results60 ntmps263 results263 ntmps192 results192 ntmps269 results269 ntmps201 results201 ntmps188 results188 ntmps95 results95 ntmps167 results167 ntmps248 results248 ntmps290 results290 ntmps247 results247 ntmps318 results318 ntmps292 results292 ntmps334 results334 ntmps314 results314 ntmps249 results249 ntmps289 results289 ntmps245 results245 ntmps246 results246 ntmps170 results170 ntmps335 results335 ntmps319 results319 ntmps293 results293 ntmps166 results166 ntmps202 results202 ntmps129 results129 ntmps294 results294 ntmps250 results250 ntmps174 results174 ntmps175 results175 ntmps28 results28 ntmps30 results30 ntmps75 results75 ntmps87 results87 ntmps240 results240 ntmps259 results259 ntmps190 results190 ntmps189 results189 ntmps96 results96 ntmps191 results191 ntmps288 results288 ntmps244 results244 ntmps289 results289 ntmps164 results164 ntmps162 results162 ntmps241 results241 ntmps86 results86 ntmps99 results99 ntmps36 results36 ntmps59 results59 ntmps203 results203 ntmps110 results110 ntmps109 results109
theorem pM {v0:List GTie}{v1:GTie→Option Bool}{f_v1:Nat}{k_v1:List AV}(hp_v1:∀ y0 r,v1 y0=some r→ak prog f_v1 ([.agg (GTie.enc y0)]++k_v1) [] (.lit (.bool r)) [])(hc_v1:KC k_v1)(hm_v1:∀ a,mdT f_v1 a=⟨[],false⟩)(hk_v1:spf f_v1=false){res:Int}(h:dg v0 v1=some res):ak prog 276 [.sl (ab GTie.enc v0),.fn f_v1 k_v1] [] (.lit (.int .i64 res)) []:=by
 refine co (hi:=hi00) func276 rfl rfl ?_
 unfold dg at h
 obtain⟨q03,l1,h⟩:=ae h
 simp(config:=cS)only[go_sem,hc_v1.1,hc_v1.2,hm_v1,hk_v1]
 refine ah (m1:=.mk) (m2:=.mk) [.nf [0,1,7,8] []] (mc v0 f_v1 k_v1 ((v0.length:Nat):Int)) l1 ?_ ?_
 ·simp(config:=cS)only[go_sem,hc_v1.1,hc_v1.2,hm_v1,hk_v1]
 ·intro nb2 v8_1 bb2 b2 gb2
  unfold cw at b2
  try dsimp only at b2
  obtain⟨h3,b2⟩|⟨h3,b2⟩:=aZ b2
  ·obtain⟨x01,g4,b2⟩:=ae b2
   obtain⟨h5,h6,h7⟩:=eA g4
   obtain⟨r02,g8,b2⟩:=ae b2
   simp(config:=cS)only[go_sem,hc_v1.1,hc_v1.2,hm_v1,hk_v1,eqT h3,h5,h6,h7]
   refine ag (hp_v1 _ _ g8) ?_
   obtain⟨h9,b2⟩|⟨h9,b2⟩:=aZ b2
   ·cases b2
    obtain rfl:=(aI gb2).symm
    try dsimp only at h
    cases h
    simp(config:=cS)only[go_sem,hc_v1.1,hc_v1.2,hm_v1,hk_v1,eqT h3,h5,h6,h7,eZt h9]
   ·cases b2
    simp(config:=cS)only[go_sem,hc_v1.1,hc_v1.2,hm_v1,hk_v1,eqT h3,h5,h6,h7,eZf h9]
    refine ig gb2 ?_
    simp(config:=cS)only[go_sem,hc_v1.1,hc_v1.2,hm_v1,hk_v1,eqT h3,h5,h6,h7,eZf h9]
  ·cases b2
   obtain rfl:=(aI gb2).symm
   try dsimp only at h
   cases h
   simp(config:=cS)only[go_sem,hc_v1.1,hc_v1.2,hm_v1,hk_v1,eqF h3]
theorem nT {v0:List GTie}{v1:GTie→Option Bool}{f_v1:Nat}{k_v1:List AV}(hp_v1:∀ y0 r,v1 y0=some r→ak prog f_v1 ([.agg (GTie.enc y0)]++k_v1) [] (.lit (.bool r)) [])(hc_v1:KC k_v1)(hm_v1:∀ a,mdT f_v1 a=⟨[],false⟩)(hk_v1:spf f_v1=false){res:Bool}(h:bS v0 v1=some res):ak prog 225 [.sl (ab GTie.enc v0),.fn f_v1 k_v1] [] (.lit (.bool res)) []:=by
 refine co (hi:=hi00) func225 rfl rfl ?_
 unfold bS at h
 obtain⟨r01,g1,h⟩:=ae h
 simp(config:=cS)only[go_sem,hc_v1.1,hc_v1.2,hm_v1,hk_v1]
 refine ag (pM hp_v1 hc_v1 hm_v1 hk_v1 g1) ?_
 cases h
 simp(config:=cS)only[go_sem,hc_v1.1,hc_v1.2,hm_v1,hk_v1]
instance k226 {u:GTie} {t:GTie}:Ctr (jq u t) (fun (res:Bool)=>ak prog 226 [.agg (GTie.enc u),.loc [.lit (.int .i64 t.from_),.lit (.int .i64 t.to),.lit (.int .i64 t.low),.lit (.int .i64 t.high),.lit (.bool t.free)]] [] (.lit (.bool res)) []):=⟨by
 intro res h0
 refine co (hi:=hi00) func226 rfl rfl ?_
 unfold jq at h0
 exact run⟩
def rB (a:List GTie)(d:Int)(b:List GNode)(c e:Int):St:=⟨[(1,.ptr 64 1 0 0),(6,.sl (ab GTie.enc a)),(7,.lit (.int .i64 d)),(8,.lit (.int .i64 e))],[(64,1,.var [.sl (ab GNode.encS b),.sl (ab GTie.enc a),.lit (.int .i64 c)])],2⟩
attribute[go_sem] rB
@[go_sem] def hi143_7:DT:=.r2 0 36 .nil
def Hm:Hint where
 acts:=fun _=>[]
 draws:=fun
  | 7=>⟨hi143_7,[[],[0],[0,1],[0,1,2],[0,1,2,3],.range 5,.range 6,.range 7,.range 8,.range 9,.range 10,.range 9,[0,1,2,3,4,5,6,7,8,11],.range 13,.range 14,.range 15,.range 16,.range 17,.range 18,.range 19,.range 20,.range 19,[0,1,2,3,4,5,6,7,8,9,10,11,12,13,14,15,16,17,18,21],.range 23,.range 24,.range 25,.range 19,[0,1,2,3,4,5,6,7,8,9,10,11,12,13,14,15,16,17,18,26],.range 19,[0,1,2,3,4,5,6,7,8,9,10,11,12,13,14,15,16,17,18,28],[0,1,2,3,4,5,6,7,8,9,10,11,12,13,14,15,16,17,18,26,27,28,29],[0,1,2,3,4,5,6,7,8,9,10,11,12,13,14,15,16,17,18,26,27,28,29,30],[0,1,2,3,4,5,6,7,8,9,10,11,12,13,14,15,16,17,18,26,27,28,29,30,31],.range 33,.range 34,.range 35],.range 36⟩
  | _=>⟨.nil,[],[]⟩
theorem Tk (i:Nat):Hm.acts i=[]:=rfl
theorem Tl (i:Nat):Hm.views i=none:=rfl
attribute[go_sem] Tk Tl ntmps143 results143
@[go_sem] theorem Xq:(Hm.draws 7).order=hi143_7:=rfl
instance k143 {s:GShow}:Ctr (mi s) (fun (res:Bool)=>ak prog 143 [.agg (GShow.encS s)] [] (.lit (.bool res)) []):=⟨by
 intro res h0
 refine co (hi:=Hm) func143 rfl rfl ?_
 unfold mi at h0
 obtain⟨q10,l0,h0⟩:=ae h0
 simp(config:=cS)only[go_sem, *]
 refine ah (m1:=.mk) (m2:=.mk) [.nf [1,6,7,8] [64]] (rB s.ties ((s.ties.length:Nat):Int) s.nodes s.horizon) l0 ?_ ?_
 ·simp(config:=cS)only[go_sem, *]
 ·have k0:=h0
  clear h0 l0
  intro _ v8_1 _ h0 gb0
  unfold gq at h0
  try dsimp only at h0
  obtain⟨_,h0⟩|⟨_,h0⟩:=itP h0
  ·obtain⟨x01,_,_,_,h0⟩:=gtI h0
   obtain⟨r02,g0,h0⟩:=ae h0
   simp(config:=cS)only[go_sem, *]
   have g0:=ctr g0
   refine ag g0 ?_
   obtain⟨_,h0⟩|⟨_,h0⟩:=itB h0
   ·obtain⟨r03,g0,h0⟩:=ae h0
    simp(config:=cS)only[go_sem, *]
    have g0:=ctr g0
    refine ag g0 ?_
    obtain⟨_,h0⟩|⟨_,h0⟩:=itB h0
    ·obtain⟨_,h0⟩|⟨_,h0⟩:=itP h0
     ·exact run
     ·obtain⟨r04,g0,h0⟩:=ae h0
      simp(config:=cS)only[go_sem, *]
      have g0:=ctr g0
      refine ag g0 ?_
      obtain⟨_,h0⟩|⟨_,h0⟩:=itB h0
      ·obtain⟨r05,g0,h0⟩:=ae h0
       simp(config:=cS)only[go_sem, *]
       have g0:=ctr g0
       refine ag g0 ?_
       obtain⟨_,h0⟩|⟨_,h0⟩:=itB h0
       ·obtain⟨_,h0⟩|⟨_,h0⟩:=itP h0
        ·exact run
        ·obtain⟨_,h0⟩|⟨_,h0⟩:=itB h0
         ·obtain⟨_,h0⟩|⟨_,h0⟩:=itP h0
          ·exact run
          ·obtain⟨_,h0⟩|⟨_,h0⟩:=itP h0
           ·exact run
           ·obtain⟨x06,_,_,_,h0⟩:=gtI h0
            obtain⟨_,h0⟩|⟨_,h0⟩:=itP h0
            ·obtain⟨x07,_,_,_,h0⟩:=gtI h0
             obtain⟨r08,g0,h0⟩:=ae h0
             simp(config:=cS)only[go_sem, *]
             have g0:=ctr g0
             refine ag g0 ?_
             obtain⟨_,h0⟩|⟨_,h0⟩:=itB h0
             ·obtain⟨_,h0⟩:=ckP h0
              obtain⟨_,h0⟩:=ckP h0
              obtain⟨r09,g0,h0⟩:=ae h0
              simp(config:=cS)only[go_sem, *]
              refine ag (nT (by exact fun _ _ hr=>by have q:=ctr hr;exact q) (by refine⟨fun _=>?_,fun _=>?_⟩ <;> simp only[go_sem]) (fun _=>rfl) rfl g0) ?_
              exact run
             ·exact run
            ·exact run
         ·exact run
       ·exact run
      ·exact run
    ·exact run
   ·exact run
  ·exact run⟩
def me (c:List Int)(a:Nat)(b:List AV)(d e:Int):St:=⟨[(0,.sl (ab eI c)),(1,.fn a b),(7,.lit (.int .i64 d)),(8,.lit (.int .i64 e))],[],2⟩
attribute[go_sem] me
theorem pN {v0:List Int}{v1:Int→Option Bool}{f_v1:Nat}{k_v1:List AV}(hp_v1:∀ y0 r,v1 y0=some r→ak prog f_v1 ([.lit (.int .i64 y0)]++k_v1) [] (.lit (.bool r)) [])(hc_v1:KC k_v1)(hm_v1:∀ a,mdT f_v1 a=⟨[],false⟩)(hk_v1:spf f_v1=false){res:Int}(h:dh v0 v1=some res):ak prog 227 [.sl (ab eI v0),.fn f_v1 k_v1] [] (.lit (.int .i64 res)) []:=by
 refine co (hi:=hi00) func227 rfl rfl ?_
 unfold dh at h
 obtain⟨q03,l1,h⟩:=ae h
 simp(config:=cS)only[go_sem,hc_v1.1,hc_v1.2,hm_v1,hk_v1]
 refine ah (m1:=.mk) (m2:=.mk) [.nf [0,1,7,8] []] (me v0 f_v1 k_v1 ((v0.length:Nat):Int)) l1 ?_ ?_
 ·simp(config:=cS)only[go_sem,hc_v1.1,hc_v1.2,hm_v1,hk_v1]
 ·intro nb2 v8_1 bb2 b2 gb2
  unfold cy at b2
  try dsimp only at b2
  obtain⟨h3,b2⟩|⟨h3,b2⟩:=aZ b2
  ·obtain⟨x01,g4,b2⟩:=ae b2
   obtain⟨h5,h6,h7⟩:=eA g4
   obtain⟨r02,g8,b2⟩:=ae b2
   simp(config:=cS)only[go_sem,hc_v1.1,hc_v1.2,hm_v1,hk_v1,eqT h3,h5,h6,h7]
   refine ag (hp_v1 _ _ g8) ?_
   obtain⟨h9,b2⟩|⟨h9,b2⟩:=aZ b2
   ·cases b2
    obtain rfl:=(aI gb2).symm
    try dsimp only at h
    cases h
    simp(config:=cS)only[go_sem,hc_v1.1,hc_v1.2,hm_v1,hk_v1,eqT h3,h5,h6,h7,eZt h9]
   ·cases b2
    simp(config:=cS)only[go_sem,hc_v1.1,hc_v1.2,hm_v1,hk_v1,eqT h3,h5,h6,h7,eZf h9]
    refine ig gb2 ?_
    simp(config:=cS)only[go_sem,hc_v1.1,hc_v1.2,hm_v1,hk_v1,eqT h3,h5,h6,h7,eZf h9]
  ·cases b2
   obtain rfl:=(aI gb2).symm
   try dsimp only at h
   cases h
   simp(config:=cS)only[go_sem,hc_v1.1,hc_v1.2,hm_v1,hk_v1,eqF h3]
theorem dn {v0:List Int}{v1:Int→Option Bool}{f_v1:Nat}{k_v1:List AV}(hp_v1:∀ y0 r,v1 y0=some r→ak prog f_v1 ([.lit (.int .i64 y0)]++k_v1) [] (.lit (.bool r)) [])(hc_v1:KC k_v1)(hm_v1:∀ a,mdT f_v1 a=⟨[],false⟩)(hk_v1:spf f_v1=false){res:Bool}(h:bf v0 v1=some res):ak prog 144 [.sl (ab eI v0),.fn f_v1 k_v1] [] (.lit (.bool res)) []:=by
 refine co (hi:=hi00) func144 rfl rfl ?_
 unfold bf at h
 obtain⟨r01,g1,h⟩:=ae h
 simp(config:=cS)only[go_sem,hc_v1.1,hc_v1.2,hm_v1,hk_v1]
 refine ag (pN hp_v1 hc_v1 hm_v1 hk_v1 g1) ?_
 cases h
 simp(config:=cS)only[go_sem,hc_v1.1,hc_v1.2,hm_v1,hk_v1]
def lN (c:List GNode)(a:Nat)(b:List AV)(d e:Int):St:=⟨[(0,.sl (ab GNode.encS c)),(1,.fn a b),(7,.lit (.int .i64 d)),(8,.lit (.int .i64 e))],[],2⟩
attribute[go_sem] lN
theorem uN {v0:List GNode}{v1:GNode→Option Bool}{f_v1:Nat}{k_v1:List AV}(hp_v1:∀ y0 r,v1 y0=some r→ak prog f_v1 ([.agg (GNode.encS y0)]++k_v1) [] (.lit (.bool r)) [])(hc_v1:KC k_v1)(hm_v1:∀ a,mdT f_v1 a=⟨[],false⟩)(hk_v1:spf f_v1=false){res:Int}(h:ej v0 v1=some res):ak prog 230 [.sl (ab GNode.encS v0),.fn f_v1 k_v1] [] (.lit (.int .i64 res)) []:=by
 refine co (hi:=hi00) func230 rfl rfl ?_
 unfold ej at h
 obtain⟨q03,l1,h⟩:=ae h
 simp(config:=cS)only[go_sem,hc_v1.1,hc_v1.2,hm_v1,hk_v1]
 refine ah (m1:=.mk) (m2:=.mk) [.nf [0,1,7,8] []] (lN v0 f_v1 k_v1 ((v0.length:Nat):Int)) l1 ?_ ?_
 ·simp(config:=cS)only[go_sem,hc_v1.1,hc_v1.2,hm_v1,hk_v1]
 ·intro nb2 v8_1 bb2 b2 gb2
  unfold cf at b2
  try dsimp only at b2
  obtain⟨h3,b2⟩|⟨h3,b2⟩:=aZ b2
  ·obtain⟨x01,g4,b2⟩:=ae b2
   obtain⟨h5,h6,h7⟩:=eA g4
   obtain⟨r02,g8,b2⟩:=ae b2
   simp(config:=cS)only[go_sem,hc_v1.1,hc_v1.2,hm_v1,hk_v1,eqT h3,h5,h6,h7]
   refine ag (hp_v1 _ _ g8) ?_
   obtain⟨h9,b2⟩|⟨h9,b2⟩:=aZ b2
   ·cases b2
    obtain rfl:=(aI gb2).symm
    try dsimp only at h
    cases h
    simp(config:=cS)only[go_sem,hc_v1.1,hc_v1.2,hm_v1,hk_v1,eqT h3,h5,h6,h7,eZt h9]
   ·cases b2
    simp(config:=cS)only[go_sem,hc_v1.1,hc_v1.2,hm_v1,hk_v1,eqT h3,h5,h6,h7,eZf h9]
    refine ig gb2 ?_
    simp(config:=cS)only[go_sem,hc_v1.1,hc_v1.2,hm_v1,hk_v1,eqT h3,h5,h6,h7,eZf h9]
  ·cases b2
   obtain rfl:=(aI gb2).symm
   try dsimp only at h
   cases h
   simp(config:=cS)only[go_sem,hc_v1.1,hc_v1.2,hm_v1,hk_v1,eqF h3]
instance k231 {n:GNode} {p:Int}:Ctr (lT n p) (fun (res:Bool)=>ak prog 231 [.agg (GNode.encS n),.loc [.lit (.int .i64 p)]] [] (.lit (.bool res)) []):=⟨by
 intro res h0
 refine co (hi:=hi00) func231 rfl rfl ?_
 unfold lT at h0
 exact run⟩
instance k148 {s:GShow} {p:Int}:Ctr (bY s p) (fun (res:Int)=>ak prog 148 [.agg (GShow.encS s),.lit (.int .i64 p)] [] (.lit (.int .i64 res)) []):=⟨by
 intro res h0
 refine co (hi:=hi00) func148 rfl rfl ?_
 unfold bY at h0
 obtain⟨r01,g0,h0⟩:=ae h0
 simp(config:=cS)only[go_sem, *]
 refine ag (uN (by exact fun _ _ hr=>by have q:=ctr hr;exact q) (by refine⟨fun _=>?_,fun _=>?_⟩ <;> simp only[go_sem]) (fun _=>rfl) rfl g0) ?_
 exact run⟩
def oC (a:List Int)(b c d:Int):St:=⟨[(0,.sl (ab eI a)),(1,.lit (.int .i64 b)),(7,.lit (.int .i64 c)),(8,.lit (.int .i64 d))],[],2⟩
attribute[go_sem] oC
instance k169 {v0:List Int} {v1:Int}:Ctr (dE v0 v1) (fun (res:Int)=>ak prog 169 [.sl (ab eI v0),.lit (.int .i64 v1)] [] (.lit (.int .i64 res)) []):=⟨by
 intro res h0
 refine co (hi:=hi00) func169 rfl rfl ?_
 unfold dE at h0
 obtain⟨q02,l0,h0⟩:=ae h0
 simp(config:=cS)only[go_sem, *]
 refine ah (m1:=.mk) (m2:=.mk) [.nf [0,1,7,8] []] (oC v0 v1 ((v0.length:Nat):Int)) l0 ?_ ?_
 ·simp(config:=cS)only[go_sem, *]
 ·have k0:=h0
  clear h0 l0
  intro _ v8_1 _ h0 gb0
  unfold dA at h0
  try dsimp only at h0
  exact run⟩
instance k228 {v0:List Int} {v1:Int}:Ctr (cH v0 v1) (fun (res:Bool)=>ak prog 228 [.sl (ab eI v0),.lit (.int .i64 v1)] [] (.lit (.bool res)) []):=⟨by
 intro res h0
 refine co (hi:=hi00) func228 rfl rfl ?_
 unfold cH at h0
 exact run⟩
instance k277 {v0:Int} {a:List Int}:Ctr (iD v0 a) (fun (res:Bool)=>ak prog 277 [.lit (.int .i64 v0),.loc [.sl (ab eI a)]] [] (.lit (.bool res)) []):=⟨by
 intro res h0
 refine co (hi:=hi00) func277 rfl rfl ?_
 unfold iD at h0
 exact run⟩
instance k229 {a:List Int} {b:List Int}:Ctr (gM a b) (fun (res:Bool)=>ak prog 229 [.sl (ab eI a),.sl (ab eI b)] [] (.lit (.bool res)) []):=⟨by
 intro res h0
 refine co (hi:=hi00) func229 rfl rfl ?_
 unfold gM at h0
 obtain⟨r01,g0,h0⟩:=ae h0
 simp(config:=cS)only[go_sem, *]
 have g0:=ctr g0
 refine ag g0 ?_
 obtain⟨_,h0⟩|⟨_,h0⟩:=itB h0
 ·obtain⟨r02,g0,h0⟩:=ae h0
  simp(config:=cS)only[go_sem, *]
  have g0:=ctr g0
  refine ag g0 ?_
  obtain⟨_,h0⟩|⟨_,h0⟩:=itB h0
  ·obtain⟨r03,g0,h0⟩:=ae h0
   simp(config:=cS)only[go_sem, *]
   refine ag (dn (by exact fun _ _ hr=>by have q:=ctr hr;exact q) (by refine⟨fun _=>?_,fun _=>?_⟩ <;> simp only[go_sem]) (fun _=>rfl) rfl g0) ?_
   exact run
  ·exact run
 ·exact run⟩
@[go_sem] def hi146_1:DT:=.i1 0 (.i2 1 (.i0 2 [0] (.i2 3 (.i2 4 .nil))))
def Hn:Hint where
 acts:=fun _=>[]
 draws:=fun
  | 1=>⟨hi146_1,[[],[],[1],[0,1,2],[0,1,2,3]],.range 5⟩
  | _=>⟨.nil,[],[]⟩
theorem Tm (i:Nat):Hn.acts i=[]:=rfl
theorem Tn (i:Nat):Hn.views i=none:=rfl
attribute[go_sem] Tm Tn ntmps146 results146
@[go_sem] theorem Xr:(Hn.draws 1).order=hi146_1:=rfl
instance k146 {s:GShow} {label:List Int} {v2:Int}:Ctr (kh s label v2) (fun (res:Bool)=>ak prog 146 [.agg (GShow.encS s),.sl (ab eI label),.lit (.int .i64 v2)] [] (.lit (.bool res)) []):=⟨by
 intro res h0
 refine co (hi:=Hn) func146 rfl rfl ?_
 unfold kh at h0
 exact run⟩
instance k145 {v0:Int} {s:GShow} {n:GNode}:Ctr (ki v0 s n) (fun (res:Bool)=>ak prog 145 [.lit (.int .i64 v0),.loc [.sl (ab GNode.encS s.nodes),.sl (ab GTie.enc s.ties),.lit (.int .i64 s.horizon)],.loc [.lit (.string n.name),.sl (ab eI n.label),.lit (.int .i64 n.watch)]] [] (.lit (.bool res)) []):=⟨by
 intro res h0
 refine co (hi:=hi00) func145 rfl rfl ?_
 unfold ki at h0
 exact run⟩
def sA (a:List GNode)(b:Int)(c:List GTie)(d e:Int):St:=⟨[(1,.ptr 64 1 0 0),(24,.sl (ab GNode.encS a)),(25,.lit (.int .i64 b)),(26,.lit (.int .i64 e))],[(64,1,.var [.sl (ab GNode.encS a),.sl (ab GTie.enc c),.lit (.int .i64 d)])],2⟩
attribute[go_sem] sA
instance k70 {s:GShow}:Ctr (cZ s) (fun (res:Bool)=>ak prog 70 [.agg (GShow.encS s)] [] (.lit (.bool res)) []):=⟨by
 intro res h0
 refine co (hi:=hi00) func70 rfl rfl ?_
 unfold cZ at h0
 obtain⟨r01,g0,h0⟩:=ae h0
 simp(config:=cS)only[go_sem, *]
 have g0:=ctr g0
 refine ag g0 ?_
 obtain⟨_,h0⟩|⟨_,h0⟩:=itB h0
 ·obtain⟨r02,g0,h0⟩:=ae h0
  simp(config:=cS)only[go_sem, *]
  have g0:=ctr g0
  refine ag g0 ?_
  obtain⟨_,h0⟩|⟨_,h0⟩:=itB h0
  ·obtain⟨_,h0⟩|⟨_,h0⟩:=itP h0
   ·exact run
   ·obtain⟨_,h0⟩|⟨_,h0⟩:=itP h0
    ·exact run
    ·obtain⟨q05,l0,h0⟩:=ae h0
     simp(config:=cS)only[go_sem, *]
     refine ah (m1:=.mk) (m2:=.mk) [.nf [1,24,25,26] [64]] (sA s.nodes ((s.nodes.length:Nat):Int) s.ties s.horizon) l0 ?_ ?_
     ·simp(config:=cS)only[go_sem, *]
     ·have k0:=h0
      clear h0 l0
      intro _ v26_1 _ h0 gb0
      unfold ip at h0
      try dsimp only at h0
      obtain⟨_,h0⟩|⟨_,h0⟩:=itP h0
      ·obtain⟨x03,_,_,_,h0⟩:=gtI h0
       obtain⟨r04,g0,h0⟩:=ae h0
       simp(config:=cS)only[go_sem, *]
       refine ag (dn (by exact fun _ _ hr=>by have q:=ctr hr;exact q) (by refine⟨fun _=>?_,fun _=>?_⟩ <;> simp only[go_sem]) (fun _=>rfl) rfl g0) ?_
       exact run
      ·exact run
  ·exact run
 ·exact run⟩
def qJ (b:List GTie)(c:Int):(Int × (List Int))→St
 | (d,a)=>⟨[(3,.ref 255 1 0 a.length),(7,.sl (ab GTie.enc b)),(8,.lit (.int .i64 c)),(9,.lit (.int .i64 d))],[(255,1,.row true (ab eI a))],2⟩
attribute[go_sem] qJ
instance k147 {s:GShow}:Ctr (dr s) (fun (res:List Int)=>ak prog 147 [.agg (GShow.encS s)] [] (.ref 20000 1 0 res.length) [(20000,1,.row true (ab eI res))]):=⟨by
 intro res h0
 refine aw (ra:=[.home 2]) (md:=mdT) hT (hi:=hi00) func147 rfl rfl (by decide +kernel) (by simp) ?_
 unfold dr at h0
 obtain⟨q02,l0,h0⟩:=ae h0
 simp(config:=cS)only[go_sem, *]
 refine ah (m1:=.mk) (m2:=.mk) [.home 3,.nf [3,7,8,9] [255]] (qJ s.ties ((s.ties.length:Nat):Int)) l0 ?_ ?_
 ·simp(config:=cS)only[go_sem, *]
 ·have k0:=h0
  clear h0 l0
  intro _ s0 _ h0 gb0
  obtain⟨v9_1,out_1⟩:=s0
  unfold iM at h0
  try dsimp only at h0
  exact run⟩
def nU (b:Int)(c:List GNode)(d:List GTie)(e:Int)(a:List Int):(Int × Int)→St
 | (n,f)=>⟨[(1,.ptr 64 1 0 0),(3,.lit (.int .i64 n)),(11,.ref 704 1 0 a.length),(12,.lit (.int .i64 b)),(13,.lit (.int .i64 f))],[(64,1,.var [.sl (ab GNode.encS c),.sl (ab GTie.enc d),.lit (.int .i64 e)]),(704,1,.row true (ab eI a))],2⟩
attribute[go_sem] nU
def nV (a:List GNode)(b:List GTie)(c:Int):(Int × Int)→St
 | (n,p)=>⟨[(1,.ptr 64 1 0 0),(3,.lit (.int .i64 n)),(6,.lit (.int .i64 p))],[(64,1,.var [.sl (ab GNode.encS a),.sl (ab GTie.enc b),.lit (.int .i64 c)])],2⟩
attribute[go_sem] nV
@[go_sem] def hi71_7:DT:=.r2 0 17 .nil
def hi71:Hint where
 acts:=fun _=>[]
 draws:=fun
  | 7=>⟨hi71_7,[[],[],[1],[],[1,2,3],[1,2,3,4],[1,2,3,4,5],[],[7],[],[7,8,9],[7,8,9,10],[7,8,9,10,11],[1,2,3,4,5,6,7,8,9,10,11,12],[1,2,3,4,5,6,7,8,9,10,11,12,13],.range 15,.range 16],.range 17⟩
  | _=>⟨.nil,[],[]⟩
theorem Ve (i:Nat):hi71.acts i=[]:=rfl
theorem Vf (i:Nat):hi71.views i=none:=rfl
attribute[go_sem] Ve Vf ntmps71 results71
@[go_sem] theorem Yb:(hi71.draws 7).order=hi71_7:=rfl
instance k71 {s:GShow}:Ctr (gW s) (fun (res:Int)=>ak prog 71 [.agg (GShow.encS s)] [] (.lit (.int .i64 res)) []):=⟨by
 intro res h0
 refine co (hi:=hi71) func71 rfl rfl ?_
 unfold gW at h0
 obtain⟨r01,g0,h0⟩:=ae h0
 simp(config:=cS)only[go_sem, *]
 have g0:=ctr g0
 refine ag g0 ?_
 obtain⟨_,h0⟩|⟨_,h0⟩:=itB h0
 ·obtain⟨r02,g0,h0⟩:=ae h0
  simp(config:=cS)only[go_sem, *]
  have g0:=ctr g0
  refine ag g0 ?_
  obtain⟨q07,l0,h0⟩:=ae h0
  simp(config:=cS)only[go_sem, *]
  refine ah (m1:=.mk) (m2:=.mk) [.nf [1,3,11,12,13] [64,704]] (nU ((r02.length:Nat):Int) s.nodes s.ties s.horizon r02) l0 ?_ ?_
  ·simp(config:=cS)only[go_sem, *]
  ·have k0:=h0
   clear h0 l0
   intro _ s0 _ h0 gb0
   obtain⟨n_1,v13_1⟩:=s0
   unfold lL at h0
   try dsimp only at h0
   obtain⟨_,h0⟩|⟨_,h0⟩:=itP h0
   ·exact run
   ·cases h0
    obtain rfl:=(aI gb0).symm
    clear gb0
    have h0:=k0
    clear k0
    try dsimp only at h0
    obtain⟨q06,l0,h0⟩:=ae h0
    simp(config:=cS)only[go_sem, *]
    refine ah (m1:=.mk) (m2:=.mk) [.nf [1,3,6] [64]] (nV s.nodes s.ties s.horizon) l0 ?_ ?_
    ·simp(config:=cS)only[go_sem, *]
    ·have k0:=h0
     clear h0 l0
     intro _ s0 _ h0 gb0
     obtain⟨n_2,p_2⟩:=s0
     unfold eO at h0
     try dsimp only at h0
     exact run
 ·exact run⟩
def qK (c:Int)(d:List GNode)(e:List GTie)(f:Int)(b:List Int):(Int × Int × (List Int))→St
 | (n,g,a)=>⟨[(1,.lit (.int .i64 n)),(2,.ptr 128 1 0 0),(4,.ptr 256 1 0 0),(5,.ptr 320 1 0 0),(12,.ref 768 1 0 b.length),(13,.lit (.int .i64 c)),(14,.lit (.int .i64 g))],[(128,1,.var [.sl (ab GNode.encS d),.sl (ab GTie.enc e),.lit (.int .i64 f)]),(256,1,.var [.lit (.slice none 0 0),.lit (.slice none 0 0)]),(320,1,.var [.ref 100020480 1 0 a.length,.lit (.slice none 0 0)]),(100020480,1,.row true (ab eI a)),(768,1,.row true (ab eI b))],2⟩
attribute[go_sem] qK
def qL (c:List GNode)(d:List GTie)(e:Int)(a:List Int):(Int × Int × (List Int))→St
 | (n,p,b)=>⟨[(1,.lit (.int .i64 n)),(2,.ptr 128 1 0 0),(4,.ptr 256 1 0 0),(5,.ptr 320 1 0 0),(9,.lit (.int .i64 p))],[(128,1,.var [.sl (ab GNode.encS c),.sl (ab GTie.enc d),.lit (.int .i64 e)]),(256,1,.var [.lit (.slice none 0 0),.lit (.slice none 0 0)]),(320,1,.var [.ref 100020480 1 0 a.length,.ref 100020481 1 0 b.length]),(100020480,1,.row true (ab eI a)),(100020481,1,.row true (ab eI b))],2⟩
attribute[go_sem] qL
@[go_sem] def hi72_6:DT:=.i1 0 (.i1 1 (.r2 2 10 (.i0 12 [0,1] (.r2 13 3 .nil))))
@[go_sem] def hi72_5:DT:=.r2 0 15 .nil
def hi72:Hint where
 acts:=fun _=>[]
 draws:=fun
  | 5=>⟨hi72_5,[[],[0],[],[0,1,2],[0,1,2,3],.range 5,[],[6],[],[6,7,8],[6,7,8,9],[6,7,8,9,10],.range 12,.range 13,.range 14],.range 15⟩
  | 6=>⟨hi72_6,[[],[0],[],[2],[],[2,3,4],[2,3,4,5],[2,3,4,5,6],[],[],[8,9],[2,3,4,5,6,7,8,9,10],[2,3,4,5,6,7,8,9,10,11],.range 13,.range 14,.range 15],.range 16⟩
  | _=>⟨.nil,[],[]⟩
theorem Vg (i:Nat):hi72.acts i=[]:=rfl
theorem Vh (i:Nat):hi72.views i=none:=rfl
attribute[go_sem] Vg Vh ntmps72 results72
@[go_sem] theorem Yc:(hi72.draws 5).order=hi72_5:=rfl
@[go_sem] theorem Yd:(hi72.draws 6).order=hi72_6:=rfl
instance k72 {s:GShow} {n:Int}:Ctr (cp s n) (fun (res:GChoice)=>ak prog 72 [.agg (GShow.encS s),.lit (.int .i64 n)] [] (.agg [.ref 20000 1 0 res.lengths.length,.ref 20001 1 0 res.values.length]) [(20000,1,.row true (ab eI res.lengths)),(20001,1,.row true (ab eI res.values))]):=⟨by
 intro res h0
 refine aw (ra:=[.homeCell 256 0,.homeCell 256 1]) (md:=mdT) hT (hi:=hi72) func72 rfl rfl (by decide +kernel) (by simp) ?_
 unfold cp at h0
 obtain⟨r01,g0,h0⟩:=ae h0
 simp(config:=cS)only[go_sem, *]
 have g0:=ctr g0
 refine ag g0 ?_
 obtain⟨q06,l0,h0⟩:=ae h0
 simp(config:=cS)only[go_sem, *]
 refine ah (m1:=.mk) (m2:=.mk) [.homeCell 320 0,.nf [1,2,4,5,12,13,14] [128,256,320,100020480,768]] (qK ((r01.length:Nat):Int) s.nodes s.ties s.horizon r01) l0 ?_ ?_
 ·simp(config:=cS)only[go_sem, *]
 ·have k0:=h0
  clear h0 l0
  intro _ s0 _ h0 gb0
  obtain⟨n_1,v14_1,h100020480_1⟩:=s0
  unfold lp at h0
  try dsimp only at h0
  obtain⟨_,h0⟩|⟨_,h0⟩:=itP h0
  ·exact run
  ·cases h0
   obtain rfl:=(aI gb0).symm
   clear gb0
   have h0:=k0
   clear k0
   try dsimp only at h0
   obtain⟨q05,l0,h0⟩:=ae h0
   simp(config:=cS)only[go_sem, *]
   refine ah (m1:=.mk) (m2:=.mk) [.homeCell 320 1,.nf [1,2,4,5,9] [128,256,320,100020480,100020481]] (qL s.nodes s.ties s.horizon h100020480_1) l0 ?_ ?_
   ·simp(config:=cS)only[go_sem, *]
   ·have k0:=h0
    clear h0 l0
    intro _ s0 _ h0 gb0
    obtain⟨n_2,p_2,h100020481_2⟩:=s0
    unfold iR at h0
    try dsimp only at h0
    exact run⟩
instance k158 {v0:List GTie}:Ctr (iS v0) (fun (res:List GTie)=>ak prog 158 [.sl (ab GTie.enc v0)] [] (.ref 20000 1 0 res.length) [(20000,1,.row true (ab GTie.enc res))]):=⟨by
 intro res h0
 refine aw (ra:=[.home 2]) (md:=mdT) hT (hi:=hi00) func158 rfl rfl (by decide +kernel) (by simp) ?_
 unfold iS at h0
 obtain⟨_,h0,_⟩|⟨a0,h0⟩:=FE h0
 ·exact run
 ·have:=fun (e:_→List AV)=>CK (e:=e) a0
  exact run⟩
instance k60 {v0:List Int}:Ctr (aW v0) (fun (res:List Int)=>ak prog 60 [.sl (ab eI v0)] [] (.ref 20000 1 0 res.length) [(20000,1,.row true (ab eI res))]):=⟨by
 intro res h0
 refine aw (ra:=[.home 2]) (md:=mdT) hT (hi:=hi00) func60 rfl rfl (by decide +kernel) (by simp) ?_
 unfold aW at h0
 obtain⟨_,h0,_⟩|⟨a0,h0⟩:=FE h0
 ·exact run
 ·have:=fun (e:_→List AV)=>CK (e:=e) a0
  exact run⟩
def mf (d:List GNode)(e c:Int)(b:List GTie):(Int × (List GNode))→St
 | (f,a)=>⟨[(2,.ptr 128 1 0 0),(3,.ptr 192 1 0 0),(13,.sl (ab GNode.encS d)),(14,.lit (.int .i64 e)),(15,.lit (.int .i64 f))],[(128,1,.var [.lit (.slice none 0 0),.lit (.slice none 0 0),.lit (.int .i64 0)]),(192,1,.var [.ref 100012288 1 0 a.length,.ref 512 1 0 b.length,.lit (.int .i64 c)]),(100012288,1,.row true (ab GNode.encO a)),(512,1,.row true (ab GTie.enc b))],2⟩
attribute[go_sem] mf
@[go_sem] def hi81_1:DT:=.i1 0 (.i1 1 (.i1 3 (.i1 4 (.fork (.i0 2 [3,4] (.i2 5 (.i0 6 [0,1,3,4] (.i2 7 .nil)))) (.i0 6 [0,1,3,4] (.i0 2 [3,4] (.i2 5 (.i2 7 .nil))))))))
def hi81:Hint where
 acts:=fun _=>[]
 draws:=fun
  | 1=>⟨hi81_1,[[],[0],[0,1],[],[3],.range 5,[],.range 7],.range 8⟩
  | _=>⟨.nil,[],[]⟩
theorem Vi (i:Nat):hi81.acts i=[]:=rfl
theorem Vj (i:Nat):hi81.views i=none:=rfl
attribute[go_sem] Vi Vj ntmps81 results81
@[go_sem] theorem Ye:(hi81.draws 1).order=hi81_1:=rfl
instance k81 {s:GShow}:Ctr (jg s) (fun (res:GShow)=>ak prog 81 [.agg (GShow.encS s)] [] (.agg [.ref 20000 1 0 res.nodes.length,.ref 20001 1 0 res.ties.length,.lit (.int .i64 res.horizon)]) [(20000,1,.row true (ab GNode.encO res.nodes)),(20001,1,.row true (ab GTie.enc res.ties))]):=⟨by
 intro res h0
 refine aw (ra:=[.homeCell 128 0,.homeCell 128 1]) (md:=mdT) hT (hi:=hi81) func81 rfl rfl (by decide +kernel) (by simp) ?_
 unfold jg at h0
 try simp(config:=cS)only[go_sem, *]
 refine bq ?_ ?_
 ·obtain⟨r01,g0,h0⟩:=ae h0
  simp(config:=cS)only[go_sem, *]
  have g0:=ctr g0
  refine ag g0 ?_
  obtain⟨q04,l0,h0⟩:=ae h0
  simp(config:=cS)only[go_sem, *]
  refine ah (m1:=.mk) (m2:=.mk) [.homeCell 192 0,.nf [2,3,13,14,15] [128,192,100012288,512]] (mf s.nodes ((s.nodes.length:Nat):Int) s.horizon r01) l0 ?_ ?_
  ·simp(config:=cS)only[go_sem, *]
  ·have k0:=h0
   clear h0 l0
   intro _ s0 _ h0 gb0
   obtain⟨v15_1,h100012288_1⟩:=s0
   unfold fO at h0
   try dsimp only at h0
   exact run
 ·obtain⟨r05,g0,h0⟩:=ae h0
  simp(config:=cS)only[go_sem, *]
  have g0:=ctr g0
  refine ag g0 ?_
  obtain⟨q08,l0,h0⟩:=ae h0
  simp(config:=cS)only[go_sem, *]
  refine ah (m1:=.mk) (m2:=.mk) [.homeCell 192 0,.nf [2,3,13,14,15] [128,192,100012288,512]] (mf s.nodes ((s.nodes.length:Nat):Int) s.horizon r05) l0 ?_ ?_
  ·simp(config:=cS)only[go_sem, *]
  ·have k0:=h0
   clear h0 l0
   intro _ s0 _ h0 gb0
   obtain⟨v15_2,h100012288_2⟩:=s0
   unfold fO at h0
   try dsimp only at h0
   exact run⟩
instance k263 {v0:Int} {y:Int}:Ctr (uy v0 y) (fun (res:Int × Int)=>ak prog 263 [.lit (.int .u64 v0),.lit (.int .u64 y)] [] (.tup [.lit (.int .u64 res.1),.lit (.int .u64 res.2)]) []):=⟨by
 intro res h0
 refine co (hi:=hi00) func263 rfl rfl ?_
 unfold uy at h0
 exact run⟩
instance k192 {v0:Int} {y:Int}:Ctr (iE v0 y) (fun (res:Int × Int)=>ak prog 192 [.lit (.int .u64 v0),.lit (.int .u64 y)] [] (.tup [.lit (.int .u64 res.1),.lit (.int .u64 res.2)]) []):=⟨by
 intro res h0
 refine co (hi:=hi00) func192 rfl rfl ?_
 unfold iE at h0
 exact run⟩
def nW  : (Int × (List Int))→St
 | (b,a)=>⟨[(7,.ref 1920 1 0 a.length),(8,.lit (.int .i64 b))],[(1920,1,.row true (ab eI a))],2⟩
attribute[go_sem] nW
@[go_sem] def hi98_9:DT:=.r2 0 10 .nil
def hi98:Hint where
 acts:=fun _=>[]
 draws:=fun
  | 9=>⟨hi98_9,[[],[],[],[1,2],[],[],[4,5],[1,2,3,4,5,6],.range 8,.range 9],.range 10⟩
  | _=>⟨.nil,[],[]⟩
theorem Vk (i:Nat):hi98.acts i=[]:=rfl
theorem Vl (i:Nat):hi98.views i=none:=rfl
attribute[go_sem] Vk Vl ntmps98 results98
@[go_sem] theorem Yf:(hi98.draws 9).order=hi98_9:=rfl
instance k98 {v0:List Int} {v1:Int}:Ctr (aJ v0 v1) (fun (res:List Int)=>ak prog 98 [.sl (ab eI v0),.lit (.int .i64 v1)] [] (.ref 20000 1 0 res.length) [(20000,1,.row true (ab eI res))]):=⟨by
 intro res h0
 refine aw (ra:=[.home 4]) (md:=mdT) hT (hi:=hi98) func98 rfl rfl (by decide +kernel) (by simp) ?_
 unfold aJ at h0
 obtain⟨_,h0⟩|⟨_,h0⟩:=itP h0
 ·exact run
 ·obtain⟨r01,g0,h0⟩:=ae h0
  simp(config:=cS)only[go_sem, *]
  have g0:=ctr g0
  refine ag g0 ?_
  obtain⟨_,h0⟩|⟨_,h0⟩:=itP h0
  ·exact run
  ·obtain⟨_,h0⟩|⟨_,h0⟩:=itP h0
   ·exact run
   ·obtain⟨_,h0⟩:=ckP h0
    obtain⟨_,h0⟩:=ckP h0
    obtain⟨_,h0⟩:=ckP h0
    obtain⟨q02,l0,h0⟩:=ae h0
    simp(config:=cS)only[go_sem, *]
    refine ah (m1:=.mk) (m2:=.mk) [.nf [7,8] [1920]] (nW) l0 ?_ ?_
    ·simp(config:=cS)only[go_sem, *]
    ·have k0:=h0
     clear h0 l0
     intro _ s0 _ h0 gb0
     obtain⟨v8_1,v7_1⟩:=s0
     unfold ap at h0
     try dsimp only at h0
     exact run⟩
@[go_sem] def hi35_3:DT:=.i1 1 (.i1 2 (.i1 3 (.fork (.i0 0 [1,2,3] (.fork (.i2 4 (.fork (.i0 5 [1,2,3] (.i2 6 (.i0 7 [1,2,3] (.i2 8 .nil)))) (.i0 7 [1,2,3] (.i0 5 [1,2,3] (.i2 6 (.i2 8 .nil)))))) (.fork (.i0 5 [1,2,3] (.fork (.i2 4 (.i2 6 (.i0 7 [1,2,3] (.i2 8 .nil)))) (.i0 7 [1,2,3] (.i2 4 (.i2 6 (.i2 8 .nil)))))) (.i0 7 [1,2,3] (.fork (.i2 4 (.i0 5 [1,2,3] (.i2 6 (.i2 8 .nil)))) (.i0 5 [1,2,3] (.i2 4 (.i2 6 (.i2 8 .nil))))))))) (.fork (.i0 5 [1,2,3] (.fork (.i0 0 [1,2,3] (.fork (.i2 4 (.i2 6 (.i0 7 [1,2,3] (.i2 8 .nil)))) (.i0 7 [1,2,3] (.i2 4 (.i2 6 (.i2 8 .nil)))))) (.i0 7 [1,2,3] (.i0 0 [1,2,3] (.i2 4 (.i2 6 (.i2 8 .nil))))))) (.i0 7 [1,2,3] (.fork (.i0 0 [1,2,3] (.fork (.i2 4 (.i0 5 [1,2,3] (.i2 6 (.i2 8 .nil)))) (.i0 5 [1,2,3] (.i2 4 (.i2 6 (.i2 8 .nil)))))) (.i0 5 [1,2,3] (.i0 0 [1,2,3] (.i2 4 (.i2 6 (.i2 8 .nil)))))))))))
def hi35:Hint where
 acts:=fun _=>[]
 draws:=fun
  | 3=>⟨hi35_3,[[],[],[1],[1,2],[0,1,2,3],[],.range 6,[],.range 8],.range 9⟩
  | _=>⟨.nil,[],[]⟩
theorem Vm (i:Nat):hi35.acts i=[]:=rfl
theorem Vn (i:Nat):hi35.views i=none:=rfl
attribute[go_sem] Vm Vn ntmps35 results35
@[go_sem] theorem Yg:(hi35.draws 3).order=hi35_3:=rfl
instance k35 {s:GShow}:Ctr (gA s) (fun (res:GState)=>ak prog 35 [.agg (GShow.encS s)] [] (.agg [.lit (.int .i64 res.now),.ref 20000 1 0 res.times.length,.ref 20001 1 0 res.values.length]) [(20000,1,.row true (ab eI res.times)),(20001,1,.row true (ab eI res.values))]):=⟨by
 intro res h0
 refine aw (ra:=[.homeCell 128 1,.homeCell 128 2]) (md:=mdT) hT (hi:=hi35) func35 rfl rfl (by decide +kernel) (by simp) ?_
 unfold gA at h0
 obtain⟨r01,g0,h0⟩:=ae h0
 simp(config:=cS)only[go_sem, *]
 have g0:=ctr g0
 refine ag g0 ?_
 obtain⟨_,h0⟩|⟨_,h0⟩:=itB h0
 ·try simp(config:=cS)only[go_sem, *]
  refine bq ?_ ?_
  ·try simp(config:=cS)only[go_sem, *]
   refine bq ?_ ?_
   ·obtain⟨r02,g0,h0⟩:=ae h0
    simp(config:=cS)only[go_sem, *]
    have g0:=ctr g0
    refine ag g0 ?_
    try simp(config:=cS)only[go_sem, *]
    refine bq ?_ ?_
    ·obtain⟨x03,g1,h0⟩:=ae h0
     have:=cU (k:=0) g1
     exact run
    ·obtain⟨x04,g2,h0⟩:=ae h0
     have:=cU (k:=0) g2
     exact run
   ·try simp(config:=cS)only[go_sem, *]
    refine bq ?_ ?_
    ·try simp(config:=cS)only[go_sem, *]
     refine bq ?_ ?_
     ·obtain⟨r05,g0,h0⟩:=ae h0
      simp(config:=cS)only[go_sem, *]
      have g0:=ctr g0
      refine ag g0 ?_
      obtain⟨x06,g3,h0⟩:=ae h0
      have:=cU (k:=0) g3
      exact run
     ·obtain⟨r07,g0,h0⟩:=ae h0
      simp(config:=cS)only[go_sem, *]
      have g0:=ctr g0
      refine ag g0 ?_
      obtain⟨x08,g4,h0⟩:=ae h0
      have:=cU (k:=0) g4
      exact run
    ·try simp(config:=cS)only[go_sem, *]
     refine bq ?_ ?_
     ·obtain⟨r09,g0,h0⟩:=ae h0
      simp(config:=cS)only[go_sem, *]
      have g0:=ctr g0
      refine ag g0 ?_
      obtain⟨x10,g5,h0⟩:=ae h0
      have:=cU (k:=0) g5
      exact run
     ·obtain⟨r11,g0,h0⟩:=ae h0
      simp(config:=cS)only[go_sem, *]
      have g0:=ctr g0
      refine ag g0 ?_
      obtain⟨x12,g6,h0⟩:=ae h0
      have:=cU (k:=0) g6
      exact run
  ·try simp(config:=cS)only[go_sem, *]
   refine bq ?_ ?_
   ·try simp(config:=cS)only[go_sem, *]
    refine bq ?_ ?_
    ·try simp(config:=cS)only[go_sem, *]
     refine bq ?_ ?_
     ·obtain⟨r13,g0,h0⟩:=ae h0
      simp(config:=cS)only[go_sem, *]
      have g0:=ctr g0
      refine ag g0 ?_
      obtain⟨x14,g7,h0⟩:=ae h0
      have:=cU (k:=0) g7
      exact run
     ·obtain⟨r15,g0,h0⟩:=ae h0
      simp(config:=cS)only[go_sem, *]
      have g0:=ctr g0
      refine ag g0 ?_
      obtain⟨x16,g8,h0⟩:=ae h0
      have:=cU (k:=0) g8
      exact run
    ·obtain⟨r17,g0,h0⟩:=ae h0
     simp(config:=cS)only[go_sem, *]
     have g0:=ctr g0
     refine ag g0 ?_
     obtain⟨x18,g9,h0⟩:=ae h0
     have:=cU (k:=0) g9
     exact run
   ·try simp(config:=cS)only[go_sem, *]
    refine bq ?_ ?_
    ·try simp(config:=cS)only[go_sem, *]
     refine bq ?_ ?_
     ·obtain⟨r19,g0,h0⟩:=ae h0
      simp(config:=cS)only[go_sem, *]
      have g0:=ctr g0
      refine ag g0 ?_
      obtain⟨x20,g10,h0⟩:=ae h0
      have:=cU (k:=0) g10
      exact run
     ·obtain⟨r21,g0,h0⟩:=ae h0
      simp(config:=cS)only[go_sem, *]
      have g0:=ctr g0
      refine ag g0 ?_
      obtain⟨x22,g11,h0⟩:=ae h0
      have:=cU (k:=0) g11
      exact run
    ·obtain⟨r23,g0,h0⟩:=ae h0
     simp(config:=cS)only[go_sem, *]
     have g0:=ctr g0
     refine ag g0 ?_
     obtain⟨x24,g12,h0⟩:=ae h0
     have:=cU (k:=0) g12
     exact run
 ·exact run⟩
@[go_sem] def hi37_3:DT:=.i2 0 (.i1 2 (.i2 4 (.i0 1 [2] (.i2 3 (.r2 5 3 .nil)))))
def hi37:Hint where
 acts:=fun _=>[]
 draws:=fun
  | 3=>⟨hi37_3,[[],[0],[],[0,1,2],[],.range 5,.range 6,.range 7],.range 8⟩
  | _=>⟨.nil,[],[]⟩
theorem Vo (i:Nat):hi37.acts i=[]:=rfl
theorem Vp (i:Nat):hi37.views i=none:=rfl
attribute[go_sem] Vo Vp ntmps37 results37
@[go_sem] theorem Yh:(hi37.draws 3).order=hi37_3:=rfl
instance k37 {s:GShow} {lazy:Bool}:Ctr (mt s lazy) (fun (res:GDesk × Bool)=>ak prog 37 [.agg (GShow.encS s),.lit (.bool lazy)] [] (.tup [.agg [.ref 20000 1 0 res.1.show_.nodes.length,.ref 20001 1 0 res.1.show_.ties.length,.lit (.int .i64 res.1.show_.horizon),.lit (.int .i64 res.1.state.now),.ref 20002 1 0 res.1.state.times.length,.ref 20003 1 0 res.1.state.values.length,.lit (.bool res.1.lazy),.ref 20004 1 0 res.1.log.length],.lit (.bool res.2)]) [(20000,1,.row true (ab GNode.encO res.1.show_.nodes)),(20001,1,.row true (ab GTie.enc res.1.show_.ties)),(20002,1,.row true (ab eI res.1.state.times)),(20003,1,.row true (ab eI res.1.state.values)),(20004,1,.row true (ab GEntry.encO res.1.log))]):=⟨by
 intro res h0
 refine aw (ra:=[.homeCell 256 0,.homeCell 256 1,.homeCell 256 4,.homeCell 256 5,.homeCell 256 7]) (md:=mdT) hT (hi:=hi37) func37 rfl rfl (by decide +kernel) (by simp) ?_
 unfold mt at h0
 exact run⟩
def qM (d:Int)(e:List GNode)(f:List GTie)(g:Int)(b c a:List Int)(h:Int):St:=⟨[(2,.ptr 128 1 0 0),(3,.ptr 192 1 0 0),(24,.ref 704 1 0 a.length),(25,.lit (.int .i64 d)),(26,.lit (.int .i64 h))],[(128,1,.var [.sl (ab GNode.encS e),.sl (ab GTie.enc f),.lit (.int .i64 g)]),(192,1,.var [.sl (ab eI b),.sl (ab eI c)]),(704,1,.row true (ab eI a))],2⟩
attribute[go_sem] qM
def qN (a:List Int)(b:Int)(c:List GNode)(d:List GTie)(e f:Int):St:=⟨[(2,.ptr 128 1 0 0),(59,.sl (ab eI a)),(60,.lit (.int .i64 b)),(61,.lit (.int .i64 f))],[(128,1,.var [.sl (ab GNode.encS c),.sl (ab GTie.enc d),.lit (.int .i64 e)])],2⟩
attribute[go_sem] qN
@[go_sem] def hi85_7:DT:=.r2 0 26 .nil
def hi85:Hint where
 acts:=fun _=>[]
 draws:=fun
  | 7=>⟨hi85_7,[[],[0],[],[0,1,2],[0,1,2,3],[],[5],[],[5,6,7],[5,6,7,8],[5,6,7,8,9],.range 11,.range 12,.range 13,.range 14,.range 13,.range 16,.range 17,.range 13,[0,1,2,3,4,5,6,7,8,9,10,11,12,18],.range 13,[0,1,2,3,4,5,6,7,8,9,10,11,12,18,19,20],[0,1,2,3,4,5,6,7,8,9,10,11,12,18,19,20,21],[0,1,2,3,4,5,6,7,8,9,10,11,12,18,19,20,21,22],.range 24,.range 25],.range 26⟩
  | _=>⟨.nil,[],[]⟩
theorem Vq (i:Nat):hi85.acts i=[]:=rfl
theorem Vr (i:Nat):hi85.views i=none:=rfl
attribute[go_sem] Vq Vr ntmps85 results85
@[go_sem] theorem Yi:(hi85.draws 7).order=hi85_7:=rfl
instance k85 {s:GShow} {v1:GChoice}:Ctr (eC s v1) (fun (res:Bool)=>ak prog 85 [.agg (GShow.encS s),.agg [.sl (ab eI v1.lengths),.sl (ab eI v1.values)]] [] (.lit (.bool res)) []):=⟨by
 intro res h0
 refine co (hi:=hi85) func85 rfl rfl ?_
 unfold eC at h0
 obtain⟨r01,g0,h0⟩:=ae h0
 simp(config:=cS)only[go_sem, *]
 have g0:=ctr g0
 refine ag g0 ?_
 obtain⟨_,h0⟩|⟨_,h0⟩:=itP h0
 ·obtain⟨_,h0⟩|⟨_,h0⟩:=itP h0
  ·obtain⟨q09,l0,h0⟩:=ae h0
   simp(config:=cS)only[go_sem, *]
   refine ah (m1:=.mk) (m2:=.mk) [.nf [2,3,24,25,26] [128,192,704]] (qM ((r01.length:Nat):Int) s.nodes s.ties s.horizon v1.lengths v1.values r01) l0 ?_ ?_
   ·simp(config:=cS)only[go_sem, *]
   ·have k0:=h0
    clear h0 l0
    intro _ v26_1 _ h0 gb0
    unfold fA at h0
    try dsimp only at h0
    obtain⟨_,h0⟩|⟨_,h0⟩:=itP h0
    ·exact run
    ·cases h0
     obtain rfl:=(aI gb0).symm
     clear gb0
     have h0:=k0
     clear k0
     try dsimp only at h0
     obtain⟨q08,l0,h0⟩:=ae h0
     simp(config:=cS)only[go_sem, *]
     refine ah (m1:=.mk) (m2:=.mk) [.nf [2,59,60,61] [128]] (qN v1.values ((v1.values.length:Nat):Int) s.nodes s.ties s.horizon) l0 ?_ ?_
     ·simp(config:=cS)only[go_sem, *]
     ·have k0:=h0
      clear h0 l0
      intro _ v61_2 _ h0 gb0
      unfold fB at h0
      try dsimp only at h0
      exact run
  ·exact run
 ·exact run⟩
@[go_sem] def hi159_1:DT:=.i1 0 (.i1 1 (.i2 2 (.i2 3 (.i1 5 (.i1 6 (.i0 4 [0,1,5,6] (.i0 7 [0,1] (.i2 8 (.i2 9 .nil)))))))))
def Ho:Hint where
 acts:=fun _=>[]
 draws:=fun
  | 1=>⟨hi159_1,[[],[0],[],[2],[2,3],[],[5],[2,3,4,5,6],.range 8,.range 9],.range 10⟩
  | _=>⟨.nil,[],[]⟩
theorem To (i:Nat):Ho.acts i=[]:=rfl
theorem Tp (i:Nat):Ho.views i=none:=rfl
attribute[go_sem] To Tp ntmps159 results159
@[go_sem] theorem Xs:(Ho.draws 1).order=hi159_1:=rfl
instance k159 {v0:GState}:Ctr (dL v0) (fun (res:GState)=>ak prog 159 [.agg (GState.encS v0)] [] (.agg [.lit (.int .i64 res.now),.ref 20000 1 0 res.times.length,.ref 20001 1 0 res.values.length]) [(20000,1,.row true (ab eI res.times)),(20001,1,.row true (ab eI res.values))]):=⟨by
 intro res h0
 refine aw (ra:=[.homeCell 128 1,.homeCell 128 2]) (md:=mdT) hT (hi:=Ho) func159 rfl rfl (by decide +kernel) (by simp) ?_
 unfold dL at h0
 exact run⟩
def rC (b:List GEntry)(c:Int):(Int × (List GEntry))→St
 | (d,a)=>⟨[(3,.ref 255 1 0 a.length),(6,.sl (ab GEntry.encS b)),(7,.lit (.int .i64 c)),(8,.lit (.int .i64 d))],[(255,1,.row true (ab GEntry.encO a))],2⟩
attribute[go_sem] rC
@[go_sem] def hi160_5:DT:=.i2 0 (.i1 1 (.i1 2 (.i2 3 (.i2 4 (.i1 6 (.i1 7 (.i1 9 (.i1 10 (.i0 5 [1,2,6,7,9,10] (.i0 8 [1,2,9,10] (.i0 11 [1,2] (.r2 12 4 .nil))))))))))))
def Hq:Hint where
 acts:=fun _=>[]
 draws:=fun
  | 5=>⟨hi160_5,[[],[],[1],[],[3],[3,4],[],[6],[3,4,5,6,7],[],[9],[3,4,5,6,7,8,9,10],[1,2,3,4,5,6,7,8,9,10,11],[1,2,3,4,5,6,7,8,9,10,11,12],.range 14,.range 15],.range 16⟩
  | _=>⟨.nil,[],[]⟩
theorem Tq (i:Nat):Hq.acts i=[]:=rfl
theorem Tr (i:Nat):Hq.views i=none:=rfl
attribute[go_sem] Tq Tr ntmps160 results160
@[go_sem] theorem Xt:(Hq.draws 5).order=hi160_5:=rfl
instance k160 {log:List GEntry}:Ctr (mu log) (fun (res:List GEntry)=>ak prog 160 [.sl (ab GEntry.encS log)] [] (.ref 20000 1 0 res.length) [(20000,1,.row true (ab GEntry.encO res))]):=⟨by
 intro res h0
 refine aw (ra:=[.home 2]) (md:=mdT) hT (hi:=Hq) func160 rfl rfl (by decide +kernel) (by simp) ?_
 unfold mu at h0
 obtain⟨q05,l0,h0⟩:=ae h0
 simp(config:=cS)only[go_sem, *]
 refine ah (m1:=.mk) (m2:=.mk) [.home 3,.nf [3,6,7,8] [255]] (rC log ((log.length:Nat):Int)) l0 ?_ ?_
 ·simp(config:=cS)only[go_sem, *]
 ·have k0:=h0
  clear h0 l0
  intro _ s0 _ h0 gb0
  obtain⟨v8_1,out_1⟩:=s0
  unfold jC at h0
  try dsimp only at h0
  exact run⟩
@[go_sem] def hi84_1:DT:=.i2 0 (.i2 1 (.i1 3 (.i1 4 (.i1 6 (.i1 7 (.i1 8 (.i1 9 (.i0 2 [3,4,6,7,8,9] (.i0 5 [6,7,8,9] (.i0 10 [6,7] (.i2 11 (.i2 12 .nil))))))))))))
def hi84:Hint where
 acts:=fun _=>[]
 draws:=fun
  | 1=>⟨hi84_1,[[],[0],[0,1],[],[3],.range 5,[],[6],[],[8],[0,1,2,3,4,5,8,9],.range 11,.range 12],.range 13⟩
  | _=>⟨.nil,[],[]⟩
theorem Vs (i:Nat):hi84.acts i=[]:=rfl
theorem Vt (i:Nat):hi84.views i=none:=rfl
attribute[go_sem] Vs Vt ntmps84 results84
@[go_sem] theorem Yj:(hi84.draws 1).order=hi84_1:=rfl
instance k84 {d:GDesk}:Ctr (jh d) (fun (res:GDesk)=>ak prog 84 [.agg (GDesk.encS d)] [] (.agg [.ref 20000 1 0 res.show_.nodes.length,.ref 20001 1 0 res.show_.ties.length,.lit (.int .i64 res.show_.horizon),.lit (.int .i64 res.state.now),.ref 20002 1 0 res.state.times.length,.ref 20003 1 0 res.state.values.length,.lit (.bool res.lazy),.ref 20004 1 0 res.log.length]) [(20000,1,.row true (ab GNode.encO res.show_.nodes)),(20001,1,.row true (ab GTie.enc res.show_.ties)),(20002,1,.row true (ab eI res.state.times)),(20003,1,.row true (ab eI res.state.values)),(20004,1,.row true (ab GEntry.encO res.log))]):=⟨by
 intro res h0
 refine aw (ra:=[.homeCell 128 0,.homeCell 128 1,.homeCell 128 4,.homeCell 128 5,.homeCell 128 7]) (md:=mdT) hT (hi:=hi84) func84 rfl rfl (by decide +kernel) (by simp) ?_
 unfold jh at h0
 exact run⟩
instance k269 {n:Int}:Ctr (kX n) (fun (res:Bool)=>ak prog 269 [.lit (.int .i64 n)] [] (.lit (.bool res)) []):=⟨by
 intro res h0
 refine co (hi:=hi00) func269 rfl rfl ?_
 unfold kX at h0
 exact run⟩
instance k201 {v:List Int}:Ctr (jb v) (fun (res:Bool)=>ak prog 201 [.sl (ab eI v)] [] (.lit (.bool res)) []):=⟨by
 intro res h0
 refine co (hi:=hi00) func201 rfl rfl ?_
 unfold jb at h0
 obtain⟨_,h0⟩|⟨_,h0⟩:=itP h0
 ·obtain⟨r01,g0,h0⟩:=ae h0
  simp(config:=cS)only[go_sem, *]
  refine ag (dn (by exact fun _ _ hr=>by have q:=ctr hr;exact q) (by refine⟨fun _=>?_,fun _=>?_⟩ <;> simp only[go_sem]) (fun _=>rfl) rfl g0) ?_
  exact run
 ·exact run⟩
def rD (a:List Int)(d:Int)(e:List GNode)(f:List GTie)(g b:Int)(c:List Int)(h:Int):St:=⟨[(2,.ptr 128 1 0 0),(3,.ptr 192 1 0 0),(37,.sl (ab eI a)),(38,.lit (.int .i64 d)),(39,.lit (.int .i64 h))],[(128,1,.var [.sl (ab GNode.encS e),.sl (ab GTie.enc f),.lit (.int .i64 g)]),(192,1,.var [.lit (.int .i64 b),.sl (ab eI a),.sl (ab eI c)])],2⟩
attribute[go_sem] rD
def rE (a:List Int)(d:Int)(e:List GNode)(f:List GTie)(g b:Int)(c:List Int)(h:Int):St:=⟨[(2,.ptr 128 1 0 0),(3,.ptr 192 1 0 0),(67,.sl (ab eI a)),(68,.lit (.int .i64 d)),(69,.lit (.int .i64 h))],[(128,1,.var [.sl (ab GNode.encS e),.sl (ab GTie.enc f),.lit (.int .i64 g)]),(192,1,.var [.lit (.int .i64 b),.sl (ab eI c),.sl (ab eI a)])],2⟩
attribute[go_sem] rE
instance k188 {s:GShow} {v1:GState}:Ctr (mv s v1) (fun (res:Bool)=>ak prog 188 [.agg (GShow.encS s),.agg (GState.encS v1)] [] (.lit (.bool res)) []):=⟨by
 intro res h0
 refine co (hi:=hi00) func188 rfl rfl ?_
 unfold mv at h0
 obtain⟨_,h0⟩|⟨_,h0⟩:=itP h0
 ·exact run
 ·obtain⟨_,h0⟩|⟨_,h0⟩:=itP h0
  ·exact run
  ·obtain⟨_,h0⟩|⟨_,h0⟩:=itP h0
   ·obtain⟨r01,g0,h0⟩:=ae h0
    simp(config:=cS)only[go_sem, *]
    have g0:=ctr g0
    refine ag g0 ?_
    obtain⟨_,h0⟩|⟨_,h0⟩:=itB h0
    ·obtain⟨q07,l0,h0⟩:=ae h0
     simp(config:=cS)only[go_sem, *]
     refine ah (m1:=.mk) (m2:=.mk) [.nf [2,3,37,38,39] [128,192]] (rD v1.times ((v1.times.length:Nat):Int) s.nodes s.ties s.horizon v1.now v1.values) l0 ?_ ?_
     ·simp(config:=cS)only[go_sem, *]
     ·have k0:=h0
      clear h0 l0
      intro _ v39_1 _ h0 gb0
      unfold gB at h0
      try dsimp only at h0
      obtain⟨_,h0⟩|⟨_,h0⟩:=itP h0
      ·exact run
      ·cases h0
       obtain rfl:=(aI gb0).symm
       clear gb0
       have h0:=k0
       clear k0
       try dsimp only at h0
       obtain⟨q06,l0,h0⟩:=ae h0
       simp(config:=cS)only[go_sem, *]
       refine ah (m1:=.mk) (m2:=.mk) [.nf [2,3,67,68,69] [128,192]] (rE v1.values ((v1.values.length:Nat):Int) s.nodes s.ties s.horizon v1.now v1.times) l0 ?_ ?_
       ·simp(config:=cS)only[go_sem, *]
       ·have k0:=h0
        clear h0 l0
        intro _ v69_2 _ h0 gb0
        unfold gC at h0
        try dsimp only at h0
        exact run
    ·exact run
   ·exact run⟩
instance k95 {s:GShow} {v1:GState}:Ctr (iy s v1) (fun (res:Bool)=>ak prog 95 [.agg (GShow.encS s),.agg (GState.encS v1)] [] (.lit (.bool res)) []):=⟨by
 intro res h0
 refine co (hi:=hi00) func95 rfl rfl ?_
 unfold iy at h0
 exact run⟩
def sB (g:List GTie)(e b:Int)(c d:List Int):(Int × (List Int))→St
 | (f,a)=>⟨[(3,.ptr 192 1 0 0),(5,.ref 383 1 0 a.length),(9,.sl (ab GTie.enc g)),(10,.lit (.int .i64 e)),(11,.lit (.int .i64 f))],[(192,1,.var [.lit (.int .i64 b),.sl (ab eI c),.sl (ab eI d)]),(383,1,.row true (ab eI a))],2⟩
attribute[go_sem] sB
instance k167 {s:GShow} {v1:GState}:Ctr (kN s v1) (fun (res:List Int)=>ak prog 167 [.agg (GShow.encS s),.agg (GState.encS v1)] [] (.ref 20000 1 0 res.length) [(20000,1,.row true (ab eI res))]):=⟨by
 intro res h0
 refine aw (ra:=[.home 4]) (md:=mdT) hT (hi:=hi00) func167 rfl rfl (by decide +kernel) (by simp) ?_
 unfold kN at h0
 obtain⟨q04,l0,h0⟩:=ae h0
 simp(config:=cS)only[go_sem, *]
 refine ah (m1:=.mk) (m2:=.mk) [.home 5,.nf [3,5,9,10,11] [192,383]] (sB s.ties ((s.ties.length:Nat):Int) v1.now v1.times v1.values) l0 ?_ ?_
 ·simp(config:=cS)only[go_sem, *]
 ·have k0:=h0
  clear h0 l0
  intro _ s0 _ h0 gb0
  obtain⟨v11_1,out_1⟩:=s0
  unfold kv at h0
  try dsimp only at h0
  exact run⟩
def rG (b:Int)(d:List Int)(e:Int):(Int × (List Int))→St
 | (c,a)=>⟨[(1,.lit (.int .i64 b)),(5,.ref 383 1 0 a.length),(8,.sl (ab eI d)),(9,.lit (.int .i64 e)),(10,.lit (.int .i64 c))],[(383,1,.row true (ab eI a))],2⟩
attribute[go_sem] rG
instance k248 {list:List Int} {set:Int}:Ctr (ka list set) (fun (res:List Int)=>ak prog 248 [.sl (ab eI list),.lit (.int .i64 set)] [] (.ref 20000 1 0 res.length) [(20000,1,.row true (ab eI res))]):=⟨by
 intro res h0
 refine aw (ra:=[.home 4]) (md:=mdT) hT (hi:=hi00) func248 rfl rfl (by decide +kernel) (by simp) ?_
 unfold ka at h0
 obtain⟨q02,l0,h0⟩:=ae h0
 simp(config:=cS)only[go_sem, *]
 refine ah (m1:=.mk) (m2:=.mk) [.home 5,.nf [1,5,8,9,10] [383]] (rG set list ((list.length:Nat):Int)) l0 ?_ ?_
 ·simp(config:=cS)only[go_sem, *]
 ·have k0:=h0
  clear h0 l0
  intro _ s0 _ h0 gb0
  obtain⟨v10_1,out_1⟩:=s0
  unfold jD at h0
  try dsimp only at h0
  exact run⟩
instance k290 {v1:Int}:Ctr (jE v1) (fun (res:List Int × Nat)=>ak prog 290 [.lit (.slice none 0 0),.lit (.int .i64 v1)] [] (.ref 20000 1 0 res.2) [(20000,1,.row true (ab eI res.1))]):=⟨by
 intro res h0
 refine aw (ra:=[.home 4]) (md:=mdT) hT (hi:=hi00) func290 rfl rfl (by decide +kernel) (by simp) ?_
 unfold jE at h0
 exact run⟩
def nX (a:List (List Int))(b:Int):(Int × Int)→St
 | (d,c)=>⟨[(0,.sl (ab (eLS eI) a)),(3,.lit (.int .i64 d)),(9,.sl (ab (eLS eI) a)),(10,.lit (.int .i64 b)),(11,.lit (.int .i64 c))],[],2⟩
attribute[go_sem] nX
def nY (b:List (List Int))(c:Int):(Nat × Int × (List Int))→St
 | (a,d,e)=>⟨[(6,.ref 1536 1 0 a),(25,.sl (ab (eLS eI) b)),(26,.lit (.int .i64 c)),(27,.lit (.int .i64 d))],[(1536,1,.row true (ab eI e))],2⟩
attribute[go_sem] nY
instance k247 {v0:List (List Int)}:Ctr (gX v0) (fun (res:List Int)=>ak prog 247 [.sl (ab (eLS eI) v0)] [] (.ref 20000 1 0 res.length) [(20000,1,.row true (ab eI res))]):=⟨by
 intro res h0
 refine aw (ra:=[.home 2,.trimT 2]) (md:=mdT) hT (hi:=hi00) func247 rfl rfl (by decide +kernel) (by simp) ?_
 unfold gX at h0
 obtain⟨q05,l0,h0⟩:=ae h0
 simp(config:=cS)only[go_sem, *]
 refine ah (m1:=.mk) (m2:=.mk) [.nf [0,3,9,10,11] []] (nX v0 ((v0.length:Nat):Int)) l0 ?_ ?_
 ·simp(config:=cS)only[go_sem, *]
 ·have k0:=h0
  clear h0 l0
  intro _ s0 _ h0 gb0
  obtain⟨v3_1,v11_1⟩:=s0
  unfold eP at h0
  try dsimp only at h0
  obtain⟨_,h0⟩|⟨_,h0⟩:=itP h0
  ·exact run
  ·cases h0
   obtain rfl:=(aI gb0).symm
   clear gb0
   have h0:=k0
   clear k0
   try dsimp only at h0
   obtain⟨r02,g0,h0⟩:=ae h0
   simp(config:=cS)only[go_sem, *]
   have g0:=ctr g0
   refine ag g0 ?_
   obtain⟨q04,l0,h0⟩:=ae h0
   simp(config:=cS)only[go_sem, *]
   refine ah (m1:=.mk) (m2:=.mk) [.nf [6,25,26,27] [1536]] (nY v0 ((v0.length:Nat):Int)) l0 ?_ ?_
   ·simp(config:=cS)only[go_sem, *]
   ·have k0:=h0
    clear h0 l0
    intro _ s0 _ h0 gb0
    obtain⟨v6_n_2,v27_2,v6_2⟩:=s0
    unfold eQ at h0
    try dsimp only at h0
    exact run⟩
instance k318 {v0:Int}:Ctr (uz v0) (fun (res:Int)=>ak prog 318 [.lit (.int .u64 v0)] [] (.lit (.int .i64 res)) []):=⟨by
 intro res h0
 refine co (hi:=hi00) func318 rfl rfl ?_
 unfold uz at h0
 exact run⟩
instance k292 {v0:Int}:Ctr (tX v0) (fun (res:Int)=>ak prog 292 [.lit (.int .u64 v0)] [] (.lit (.int .i64 res)) []):=⟨by
 intro res h0
 refine co (hi:=hi00) func292 rfl rfl ?_
 unfold tX at h0
 exact run⟩
instance k334 {v0:Int}:Ctr (lq v0) (fun (res:Bool)=>ak prog 334 [.lit (.int .i64 v0)] [] (.lit (.bool res)) []):=⟨by
 intro res h0
 refine co (hi:=hi00) func334 rfl rfl ?_
 unfold lq at h0
 exact run⟩
instance k314 {v0:Int} {v1:Int}:Ctr (mw v0 v1) (fun (res:Bool)=>ak prog 314 [.lit (.int .i64 v0),.lit (.int .i64 v1)] [] (.lit (.bool res)) []):=⟨by
 intro res h0
 refine co (hi:=hi00) func314 rfl rfl ?_
 unfold mw at h0
 exact run⟩
def gH (a:Bool)(c d e:Int):(Int × (List Int))→St
 | (f,b)=>⟨[(0,.ref 10000 0 0 b.length),(1,.lit (.int .i64 c)),(2,.lit (.int .i64 d)),(6,.lit (.int .i64 e)),(7,.lit (.int .i64 f))],[(10000,0,.row a (ab eI b))],2⟩
attribute[go_sem] gH
def gI (a:Bool)(c d:Int):(Int × (List Int))→St
 | (e,b)=>⟨[(0,.ref 10000 0 0 b.length),(1,.lit (.int .i64 c)),(2,.lit (.int .i64 d)),(6,.lit (.int .i64 e))],[(10000,0,.row a (ab eI b))],2⟩
attribute[go_sem] gI
@[go_sem] def hi308_6:DT:=.r2 0 18 .nil
@[go_sem] def hi308_4:DT:=.r2 0 15 .nil
def Di:Hint where
 acts:=fun _=>[]
 draws:=fun
  | 4=>⟨hi308_4,[[],[],[0,1],[0,1,2],[0,1,2,3],[0,1,2,3],.range 6,.range 7,[0,1,2,3],[0,1,2,3],[0,1,2,3,9],[0,1,2,3,8,9,10],[0,1,2,3,8,9,10,11],.range 13,.range 14],.range 15⟩
  | 6=>⟨hi308_6,[[],[],[],[],[3],[],[],[6],[5,6,7],[5,6,7,8],[],[],[10,11],[10,11,12],[0,1,5,6,7,8,9,10,11,12,13],[0,1,5,6,7,8,9,10,11,12,13,14],.range 16,.range 17],[0,1,13,14,15,2,3,4,5,6,7,8,9,10,11,12,16,17]⟩
  | _=>⟨.nil,[],[]⟩
theorem Ts (i:Nat):Di.acts i=[]:=rfl
theorem Tt (i:Nat):Di.views i=none:=rfl
attribute[go_sem] Ts Tt ntmps308 results308
@[go_sem] theorem Xu:(Di.draws 4).order=hi308_4:=rfl
@[go_sem] theorem Xv:(Di.draws 6).order=hi308_6:=rfl
theorem pO {v0:List Int}{v1 v2:Int}{zb0:Bool}{res:List Int}(h0:bX v0 v1 v2=some res):ak prog 308 [.ref 10000 0 0 v0.length,.lit (.int .i64 v1),.lit (.int .i64 v2)] [(10000,0,.row zb0 (ab eI v0))] (.tup []) [(10000,0,.row zb0 (ab eI res))]:=by
 refine co (hi:=Di) func308 rfl rfl ?_
 unfold bX at h0
 obtain⟨q06,l0,h0⟩:=ae h0
 simp(config:=cS)only[go_sem, *]
 refine ah (m1:=.mk) (m2:=.mk) [.nf [0,1,2,6] [10000]] (gI zb0 v1 v2) l0 ?_ ?_
 ·simp(config:=cS)only[go_sem, *]
 ·have k0:=h0
  clear h0 l0
  intro _ s0 _ h0 gb0
  obtain⟨v6_1,v0_1⟩:=s0
  unfold bo at h0
  try dsimp only at h0
  obtain⟨_,h0⟩|⟨_,h0⟩:=itP h0
  ·obtain⟨q05,l0,h0⟩:=ae h0
   simp(config:=cS)only[go_sem, *]
   refine ah (m1:=.mk) (m2:=.mk) [.nf [0,1,2,6,7] [10000]] (gH zb0 v1 v2 v6_1) l0 ?_ ?_
   ·simp(config:=cS)only[go_sem, *]
   ·have k0:=h0
    clear h0 l0
    intro _ s0 _ h0 gb0
    obtain⟨v7_2,v0_2⟩:=s0
    unfold aO at h0
    try dsimp only at h0
    exact run
  ·exact run
def jU (a:Bool)(c d e:Int)(b:List Int)(_:Unit):St:=⟨[(0,.ref 10000 0 0 b.length),(1,.lit (.int .i64 c)),(2,.lit (.int .i64 d)),(3,.lit (.int .i64 e)),(8,.lit (.bool true)),(9,.lit (.bool true))],[(10000,0,.row a (ab eI b))],2⟩
attribute[go_sem] jU
@[go_sem] def hi291_17:DT:=.r2 0 15 .nil
def Hr:Hint where
 acts:=fun _=>[]
 draws:=fun
  | 17=>⟨hi291_17,[[],[0],[0,1],[0,1,2],[0,1,2],[0,1,2,4],.range 6,.range 7,[0,1,2],[0,1,2],[0,1,2,8,9],[0,1,2,8,9,10],.range 12,.range 13,.range 14],.range 15⟩
  | _=>⟨.nil,[],[]⟩
theorem Tu (i:Nat):Hr.acts i=[]:=rfl
theorem Tv (i:Nat):Hr.views i=none:=rfl
attribute[go_sem] Tu Tv ntmps291 results291
@[go_sem] theorem Wj:(Hr.draws 17).order=hi291_17:=rfl
theorem tn {v0:List Int}{v1 v2 v3:Int}{zb0:Bool}{res:List Int}(h0:cP v0 v1 v2 v3=some res):ak prog 291 [.ref 10000 0 0 v0.length,.lit (.int .i64 v1),.lit (.int .i64 v2),.lit (.int .i64 v3)] [(10000,0,.row zb0 (ab eI v0))] (.tup []) [(10000,0,.row zb0 (ab eI res))]:=by
 refine co (hi:=Hr) func291 rfl rfl ?_
 unfold cP at h0
 obtain⟨q02,l0,h0⟩:=ae h0
 simp(config:=cS)only[go_sem, *]
 refine ah (m1:=.mk) (m2:=.mk) [.nf [0,1,2,3,8,9] [10000]] (jU zb0 v1 v2 v3 v0) l0 ?_ ?_
 ·simp(config:=cS)only[go_sem, *]
 ·have k0:=h0
  clear h0 l0
  intro _ s0 _ h0 gb0
  unfold ga at h0
  try dsimp only at h0
  obtain⟨_,h0⟩|⟨_,h0⟩:=itP h0
  ·obtain⟨r01,g0,h0⟩:=ae h0
   simp(config:=cS)only[go_sem, *]
   refine ag (pO g0) ?_
   exact run
  ·exact run
theorem tM {v0:List Int}{zb0:Bool}{res:List Int}(h0:cC v0=some res):ak prog 249 [.ref 10000 0 0 v0.length] [(10000,0,.row zb0 (ab eI v0))] (.tup []) [(10000,0,.row zb0 (ab eI res))]:=by
 refine co (hi:=hi00) func249 rfl rfl ?_
 unfold cC at h0
 obtain⟨r01,g0,h0⟩:=ae h0
 simp(config:=cS)only[go_sem, *]
 have g0:=ctr g0
 refine ag g0 ?_
 obtain⟨r02,g0,h0⟩:=ae h0
 simp(config:=cS)only[go_sem, *]
 refine ag (tn g0) ?_
 exact run
def rH (g:Int)(h:List GNode)(i:List GTie)(j d:Int)(e f b:List Int):(Int × (List Int) × (List Int))→St
 | (k,a,c)=>⟨[(2,.ptr 128 1 0 0),(3,.ptr 192 1 0 0),(5,.ref 383 1 0 a.length),(6,.ref 447 1 0 c.length),(20,.ref 1280 1 0 b.length),(21,.lit (.int .i64 g)),(22,.lit (.int .i64 k))],[(128,1,.var [.sl (ab GNode.encS h),.sl (ab GTie.enc i),.lit (.int .i64 j)]),(192,1,.var [.lit (.int .i64 d),.sl (ab eI e),.sl (ab eI f)]),(383,1,.row true (ab eI a)),(447,1,.row true (ab eI c)),(1280,1,.row true (ab eI b))],2⟩
attribute[go_sem] rH
def rI (a b:List Int):(Int × (List (List Int)))→St
 | (d,c)=>⟨[(5,.ref 383 1 0 a.length),(6,.ref 447 1 0 b.length),(10,.ref 703 1 0 c.length),(11,.lit (.int .i64 d))],[(383,1,.tree (ab eI a)),(447,1,.row true (ab eI b)),(703,1,.row true (ab (eLO eI) c))],2⟩
attribute[go_sem] rI
@[go_sem] def hi171_7:DT:=.r2 0 14 .nil
def Hs:Hint where
 acts:=fun _=>[]
 draws:=fun
  | 7=>⟨hi171_7,[[],[0],[],[2],[],[4],[],[4,5,6],[4,5,6,7],[4,5,6,7,8],[2,3,4,5,6,7,8,9],[2,3,4,5,6,7,8,9,10],.range 12,.range 13],.range 14⟩
  | _=>⟨.nil,[],[]⟩
theorem Tw (i:Nat):Hs.acts i=[]:=rfl
theorem Tx (i:Nat):Hs.views i=none:=rfl
attribute[go_sem] Tw Tx ntmps171 results171
@[go_sem] theorem Xw:(Hs.draws 7).order=hi171_7:=rfl
instance k171 {s:GShow} {v1:GState}:Ctr (iz s v1) (fun (res:List (List Int))=>ak prog 171 [.agg (GShow.encS s),.agg (GState.encS v1)] [] (.ref 20000 1 0 res.length) [(20000,1,.row true (ab (eLO eI) res))]):=⟨by
 intro res h0
 refine aw (ra:=[.home 4]) (md:=mdT) hT (hi:=Hs) func171 rfl rfl (by decide +kernel) (by simp) ?_
 unfold iz at h0
 obtain⟨_,h0⟩|⟨_,h0⟩:=itP h0
 ·exact run
 ·obtain⟨r01,g0,h0⟩:=ae h0
  simp(config:=cS)only[go_sem, *]
  have g0:=ctr g0
  refine ag g0 ?_
  obtain⟨q09,l0,h0⟩:=ae h0
  simp(config:=cS)only[go_sem, *]
  refine ah (m1:=.mk) (m2:=.mk) [.home 5,.home 6,.nf [2,3,5,6,20,21,22] [128,192,383,447,1280]] (rH ((r01.length:Nat):Int) s.nodes s.ties s.horizon v1.now v1.times v1.values r01) l0 ?_ ?_
  ·simp(config:=cS)only[go_sem, *]
  ·have k0:=h0
   clear h0 l0
   intro _ s0 _ h0 gb0
   obtain⟨v22_1,must_1,may_1⟩:=s0
   unfold jF at h0
   try dsimp only at h0
   obtain⟨_,h0⟩|⟨_,h0⟩:=itP h0
   ·exact run
   ·cases h0
    obtain rfl:=(aI gb0).symm
    clear gb0
    have h0:=k0
    clear k0
    try dsimp only at h0
    obtain⟨q08,l0,h0⟩:=ae h0
    simp(config:=cS)only[go_sem, *]
    refine ah (m1:=.mk) (m2:=.mk) [.home 10,.freeze [383],.nf [5,6,10,11] [383,447,703]] (rI must_1 may_1) l0 ?_ ?_
    ·simp(config:=cS)only[go_sem, *]
    ·have k0:=h0
     clear h0 l0
     intro _ s0 _ h0 gb0
     obtain⟨set_2,out_2⟩:=s0
     unfold jG at h0
     try dsimp only at h0
     obtain⟨_,h0⟩:=ckN h0
     obtain⟨_,h0⟩|⟨_,h0⟩:=itP h0
     ·obtain⟨r05,g0,h0⟩:=ae h0
      simp(config:=cS)only[go_sem, *]
      have g0:=ctr g0
      refine ag g0 ?_
      obtain⟨r06,g0,h0⟩:=ae h0
      simp(config:=cS)only[go_sem, *]
      have g0:=ctr g0
      refine ag g0 ?_
      obtain⟨r07,g0,h0⟩:=ae h0
      simp(config:=cS)only[go_sem, *]
      refine ag (tM g0) ?_
      exact run
     ·exact run⟩
def lO (c:List (List Int))(a:Nat)(b:List AV)(d e:Int):St:=⟨[(0,.sl (ab (eLS eI) c)),(1,.fn a b),(7,.lit (.int .i64 d)),(8,.lit (.int .i64 e))],[],2⟩
attribute[go_sem] lO
theorem uO {v0:List (List Int)}{v1:(List Int)→Option Bool}{f_v1:Nat}{k_v1:List AV}(hp_v1:∀ y0 r,v1 y0=some r→ak prog f_v1 ([.sl (ab eI y0)]++k_v1) [] (.lit (.bool r)) [])(hc_v1:KC k_v1)(hm_v1:∀ a,mdT f_v1 a=⟨[],false⟩)(hk_v1:spf f_v1=false){res:Int}(h:ek v0 v1=some res):ak prog 289 [.sl (ab (eLS eI) v0),.fn f_v1 k_v1] [] (.lit (.int .i64 res)) []:=by
 refine co (hi:=hi00) func289 rfl rfl ?_
 unfold ek at h
 obtain⟨q03,l1,h⟩:=ae h
 simp(config:=cS)only[go_sem,hc_v1.1,hc_v1.2,hm_v1,hk_v1]
 refine ah (m1:=.mk) (m2:=.mk) [.nf [0,1,7,8] []] (lO v0 f_v1 k_v1 ((v0.length:Nat):Int)) l1 ?_ ?_
 ·simp(config:=cS)only[go_sem,hc_v1.1,hc_v1.2,hm_v1,hk_v1]
 ·intro nb2 v8_1 bb2 b2 gb2
  unfold cj at b2
  try dsimp only at b2
  obtain⟨h3,b2⟩|⟨h3,b2⟩:=aZ b2
  ·obtain⟨x01,g4,b2⟩:=ae b2
   obtain⟨h5,h6,h7⟩:=eA g4
   obtain⟨r02,g8,b2⟩:=ae b2
   simp(config:=cS)only[go_sem,hc_v1.1,hc_v1.2,hm_v1,hk_v1,eqT h3,h5,h6,h7]
   refine ag (hp_v1 _ _ g8) ?_
   obtain⟨h9,b2⟩|⟨h9,b2⟩:=aZ b2
   ·cases b2
    obtain rfl:=(aI gb2).symm
    try dsimp only at h
    cases h
    simp(config:=cS)only[go_sem,hc_v1.1,hc_v1.2,hm_v1,hk_v1,eqT h3,h5,h6,h7,eZt h9]
   ·cases b2
    simp(config:=cS)only[go_sem,hc_v1.1,hc_v1.2,hm_v1,hk_v1,eqT h3,h5,h6,h7,eZf h9]
    refine ig gb2 ?_
    simp(config:=cS)only[go_sem,hc_v1.1,hc_v1.2,hm_v1,hk_v1,eqT h3,h5,h6,h7,eZf h9]
  ·cases b2
   obtain rfl:=(aI gb2).symm
   try dsimp only at h
   cases h
   simp(config:=cS)only[go_sem,hc_v1.1,hc_v1.2,hm_v1,hk_v1,eqF h3]
theorem tI {v0:List (List Int)}{v1:(List Int)→Option Bool}{f_v1:Nat}{k_v1:List AV}(hp_v1:∀ y0 r,v1 y0=some r→ak prog f_v1 ([.sl (ab eI y0)]++k_v1) [] (.lit (.bool r)) [])(hc_v1:KC k_v1)(hm_v1:∀ a,mdT f_v1 a=⟨[],false⟩)(hk_v1:spf f_v1=false){res:Bool}(h:eX v0 v1=some res):ak prog 245 [.sl (ab (eLS eI) v0),.fn f_v1 k_v1] [] (.lit (.bool res)) []:=by
 refine co (hi:=hi00) func245 rfl rfl ?_
 unfold eX at h
 obtain⟨r01,g1,h⟩:=ae h
 simp(config:=cS)only[go_sem,hc_v1.1,hc_v1.2,hm_v1,hk_v1]
 refine ag (uO hp_v1 hc_v1 hm_v1 hk_v1 g1) ?_
 cases h
 simp(config:=cS)only[go_sem,hc_v1.1,hc_v1.2,hm_v1,hk_v1]
instance k246 {y:List Int} {v1:List Int}:Ctr (qf y v1) (fun (res:Bool)=>ak prog 246 [.sl (ab eI y),.loc [.sl (ab eI v1)]] [] (.lit (.bool res)) []):=⟨by
 intro res h0
 refine co (hi:=hi00) func246 rfl rfl ?_
 unfold qf at h0
 exact run⟩
instance k170 {list:List (List Int)} {v1:List Int}:Ctr (mX list v1) (fun (res:Bool)=>ak prog 170 [.sl (ab (eLS eI) list),.sl (ab eI v1)] [] (.lit (.bool res)) []):=⟨by
 intro res h0
 refine co (hi:=hi00) func170 rfl rfl ?_
 unfold mX at h0
 obtain⟨r01,g0,h0⟩:=ae h0
 simp(config:=cS)only[go_sem, *]
 refine ag (tI (by exact fun _ _ hr=>by have q:=ctr hr;exact q) (by refine⟨fun _=>?_,fun _=>?_⟩ <;> simp only[go_sem]) (fun _=>rfl) rfl g0) ?_
 exact run⟩
def tp (g:List Int)(h:Int)(i:List GNode)(j:List GTie)(k d:Int)(e f:List Int)(c:Int)(a:List Int):(Int × (List Int))→St
 | (l,b)=>⟨[(3,.ptr 192 1 0 0),(4,.ptr 256 1 0 0),(6,.ptr 384 1 0 0),(7,.ptr 448 1 0 0),(12,.sl (ab eI g)),(13,.lit (.int .i64 h)),(14,.lit (.int .i64 l))],[(192,1,.var [.sl (ab GNode.encS i),.sl (ab GTie.enc j),.lit (.int .i64 k)]),(256,1,.var [.lit (.int .i64 d),.sl (ab eI e),.sl (ab eI f)]),(384,1,.var [.lit (.int .i64 0),.lit (.slice none 0 0),.lit (.slice none 0 0)]),(448,1,.var [.lit (.int .i64 c),.ref 704 1 0 b.length,.ref 705 1 0 a.length]),(704,1,.row true (ab eI b)),(705,1,.row true (ab eI a))],2⟩
attribute[go_sem] tp
@[go_sem] def hi173_5:DT:=.r2 0 12 .nil
def Ht:Hint where
 acts:=fun _=>[]
 draws:=fun
  | 5=>⟨hi173_5,[[],[0],[],[2],[],[2,3,4],[2,3,4,5],[2,3,4,5,6],[],[8],.range 10,.range 11],.range 12⟩
  | _=>⟨.nil,[],[]⟩
theorem Tz (i:Nat):Ht.acts i=[]:=rfl
theorem TA (i:Nat):Ht.views i=none:=rfl
attribute[go_sem] Tz TA ntmps173 results173
@[go_sem] theorem Xx:(Ht.draws 5).order=hi173_5:=rfl
instance k173 {s:GShow} {v1:GState} {ties:List Int}:Ctr (kw s v1 ties) (fun (res:GState)=>ak prog 173 [.agg (GShow.encS s),.agg (GState.encS v1),.sl (ab eI ties)] [] (.agg [.lit (.int .i64 res.now),.ref 20000 1 0 res.times.length,.ref 20001 1 0 res.values.length]) [(20000,1,.row true (ab eI res.times)),(20001,1,.row true (ab eI res.values))]):=⟨by
 intro res h0
 refine aw (ra:=[.homeCell 384 1,.homeCell 384 2]) (md:=mdT) hT (hi:=Ht) func173 rfl rfl (by decide +kernel) (by simp) ?_
 unfold kw at h0
 obtain⟨r01,g0,h0⟩:=ae h0
 simp(config:=cS)only[go_sem, *]
 have g0:=ctr g0
 refine ag g0 ?_
 obtain⟨q05,l0,h0⟩:=ae h0
 simp(config:=cS)only[go_sem, *]
 refine ah (m1:=.mk) (m2:=.mk) [.nf [3,4,6,7,12,13,14] [192,256,384,448,704,705]] (tp ties ((ties.length:Nat):Int) s.nodes s.ties s.horizon v1.now v1.times v1.values r01.now r01.values) l0 ?_ ?_
 ·simp(config:=cS)only[go_sem, *]
 ·have k0:=h0
  clear h0 l0
  intro _ s0 _ h0 gb0
  obtain⟨v14_1,h704_1⟩:=s0
  unfold lr at h0
  try dsimp only at h0
  exact run⟩
instance k335 {t:GTie} {node:Int}:Ctr (lV t node) (fun (res:Bool)=>ak prog 335 [.agg (GTie.enc t),.loc [.lit (.int .i64 node)]] [] (.lit (.bool res)) []):=⟨by
 intro res h0
 refine co (hi:=hi00) func335 rfl rfl ?_
 unfold lV at h0
 exact run⟩
instance k319 {s:GShow} {node:Int}:Ctr (my s node) (fun (res:Int)=>ak prog 319 [.agg (GShow.encS s),.lit (.int .i64 node)] [] (.lit (.int .i64 res)) []):=⟨by
 intro res h0
 refine co (hi:=hi00) func319 rfl rfl ?_
 unfold my at h0
 obtain⟨r01,g0,h0⟩:=ae h0
 simp(config:=cS)only[go_sem, *]
 refine ag (pM (by exact fun _ _ hr=>by have q:=ctr hr;exact q) (by refine⟨fun _=>?_,fun _=>?_⟩ <;> simp only[go_sem]) (fun _=>rfl) rfl g0) ?_
 exact run⟩
def sC (b:List GNode)(c:List GTie)(d:Int):(Int × (List Int))→St
 | (i,a)=>⟨[(1,.ptr 64 1 0 0),(3,.ref 255 1 0 a.length),(4,.lit (.int .i64 i))],[(64,1,.var [.sl (ab GNode.encS b),.sl (ab GTie.enc c),.lit (.int .i64 d)]),(255,1,.row true (ab eI a))],2⟩
attribute[go_sem] sC
instance k293 {s:GShow}:Ctr (nF s) (fun (res:List Int)=>ak prog 293 [.agg (GShow.encS s)] [] (.ref 20000 1 0 res.length) [(20000,1,.row true (ab eI res))]):=⟨by
 intro res h0
 refine aw (ra:=[.home 2]) (md:=mdT) hT (hi:=hi00) func293 rfl rfl (by decide +kernel) (by simp) ?_
 unfold nF at h0
 obtain⟨q02,l0,h0⟩:=ae h0
 simp(config:=cS)only[go_sem, *]
 refine ah (m1:=.mk) (m2:=.mk) [.home 3,.nf [1,3,4] [64,255]] (sC s.nodes s.ties s.horizon) l0 ?_ ?_
 ·simp(config:=cS)only[go_sem, *]
 ·have k0:=h0
  clear h0 l0
  intro _ s0 _ h0 gb0
  obtain⟨i_1,out_1⟩:=s0
  unfold kx at h0
  try dsimp only at h0
  exact run⟩
def lP (c:Bool)(a:Nat)(b:List AV):(Int × Int × (List Int))→St
 | (e,f,d)=>⟨[(0,.ref 10000 0 0 d.length),(1,.fn a b),(5,.lit (.int .i64 e)),(6,.lit (.int .i64 f))],[(10000,0,.row c (ab eI d))],2⟩
attribute[go_sem] lP
theorem pk {v0:List Int}{v1:Int→Option Bool}{zb0:Bool}{f_v1:Nat}{k_v1:List AV}(hp_v1:∀ y0 r,v1 y0=some r→ak prog f_v1 ([.lit (.int .i64 y0)]++k_v1) [] (.lit (.bool r)) [])(hc_v1:KC k_v1)(hm_v1:∀ a,mdT f_v1 a=⟨[],false⟩)(hk_v1:spf f_v1=false){res:List Int}(h:cT v0 v1=some res):ak prog 166 [.ref 10000 0 0 v0.length,.fn f_v1 k_v1] [(10000,0,.row zb0 (ab eI v0))] (.ref 10000 0 0 res.length) [(10000,0,.row false (ab eI res))]:=by
 refine aw (ra:=[.home 4,.trim 4]) (md:=mdT) hT (hi:=hi00) func166 rfl rfl (by decide +kernel) (by simp) ?_
 unfold cT at h
 obtain⟨r01,g1,h⟩:=ae h
 simp(config:=cS)only[go_sem,hc_v1.1,hc_v1.2,hm_v1,hk_v1]
 refine ag (pN hp_v1 hc_v1 hm_v1 hk_v1 g1) ?_
 obtain⟨h2,h⟩|⟨h2,h⟩:=aZ h
 ·cases h
  simp(config:=cS)only[go_sem,hc_v1.1,hc_v1.2,hm_v1,hk_v1,eqT h2]
 ·obtain⟨q05,l3,h⟩:=ae h
  simp(config:=cS)only[go_sem,hc_v1.1,hc_v1.2,hm_v1,hk_v1,eqF h2]
  refine ah (m1:=.mk) (m2:=.mk) [.nf [0,1,5,6] [10000]] (lP zb0 f_v1 k_v1) l3 ?_ ?_
  ·simp(config:=cS)only[go_sem,hc_v1.1,hc_v1.2,hm_v1,hk_v1,eqF h2]
  ·intro nb4 sb4 bb4 b4 gb4
   obtain⟨v5_1,v6_1,v0_1⟩:=sb4
   unfold db at b4
   try dsimp only at b4
   obtain⟨h5,b4⟩|⟨h5,b4⟩:=aZ b4
   ·obtain⟨x02,g6,b4⟩:=ae b4
    obtain⟨h7,h8,h9⟩:=eA g6
    obtain⟨r03,g10,b4⟩:=ae b4
    simp(config:=cS)only[go_sem,hc_v1.1,hc_v1.2,hm_v1,hk_v1,eqF h2,eqT h5,h7,h8,h9]
    refine ag (hp_v1 _ _ g10) ?_
    obtain⟨h11,b4⟩|⟨h11,b4⟩:=aZ b4
    ·cases b4
     simp(config:=cS)only[go_sem,hc_v1.1,hc_v1.2,hm_v1,hk_v1,eqF h2,eqT h5,h7,h8,h9,eZt h11]
     refine ig gb4 ?_
     simp(config:=cS)only[go_sem,hc_v1.1,hc_v1.2,hm_v1,hk_v1,eqF h2,eqT h5,h7,h8,h9,eZt h11]
    ·obtain⟨x04,g12,b4⟩:=ae b4
     obtain⟨h13,h14,h15⟩:=eA g12
     cases b4
     simp(config:=cS)only[go_sem,hc_v1.1,hc_v1.2,hm_v1,hk_v1,eqF h2,eqT h5,h7,h8,h9,eZf h11,h13,h14,h15]
     refine ig gb4 ?_
     simp(config:=cS)only[go_sem,hc_v1.1,hc_v1.2,hm_v1,hk_v1,eqF h2,eqT h5,h7,h8,h9,eZf h11,h13,h14,h15]
   ·cases b4
    obtain rfl:=(aI gb4).symm
    try dsimp only at h
    obtain⟨h17,h⟩:=ie h
    obtain⟨h18,h⟩:=ie h
    obtain⟨h19,h⟩:=ie h
    cases h
    simp(config:=cS)only[go_sem,hc_v1.1,hc_v1.2,hm_v1,hk_v1,eqF h2,eqF h5,eqT h17,eqT h18,eqT h19]
instance k202 {l:Int} {v:List Int}:Ctr (oD l v) (fun (res:Int)=>ak prog 202 [.lit (.int .i64 l),.sl (ab eI v)] [] (.lit (.int .i64 res)) []):=⟨by
 intro res h0
 refine co (hi:=hi00) func202 rfl rfl ?_
 unfold oD at h0
 exact run⟩
def pl (v a:List Int)(b:Int):(Int × Int)→St
 | (c,d)=>⟨[(1,.sl (ab eI v)),(5,.lit (.int .i64 c)),(16,.sl (ab eI a)),(17,.lit (.int .i64 b)),(18,.lit (.int .i64 d))],[],2⟩
attribute[go_sem] pl
instance k129 {l:List Int} {v:List Int}:Ctr (eo l v) (fun (res:Int)=>ak prog 129 [.sl (ab eI l),.sl (ab eI v)] [] (.lit (.int .i64 res)) []):=⟨by
 intro res h0
 refine co (hi:=hi00) func129 rfl rfl ?_
 unfold eo at h0
 obtain⟨r01,g0,h0⟩:=ae h0
 simp(config:=cS)only[go_sem, *]
 have g0:=ctr g0
 refine ag g0 ?_
 obtain⟨_,h0⟩|⟨_,h0⟩:=itB h0
 ·obtain⟨r02,g0,h0⟩:=ae h0
  simp(config:=cS)only[go_sem, *]
  have g0:=ctr g0
  refine ag g0 ?_
  obtain⟨_,h0⟩|⟨_,h0⟩:=itB h0
  ·obtain⟨q05,l0,h0⟩:=ae h0
   simp(config:=cS)only[go_sem, *]
   refine ah (m1:=.mk) (m2:=.mk) [.nf [1,5,16,17,18] []] (pl v l ((l.length:Nat):Int)) l0 ?_ ?_
   ·simp(config:=cS)only[go_sem, *]
   ·have k0:=h0
    clear h0 l0
    intro _ s0 _ h0 gb0
    obtain⟨out_1,v18_1⟩:=s0
    unfold fW at h0
    try dsimp only at h0
    exact run
  ·exact run
 ·exact run⟩
@[go_sem] def hi261_1:DT:=.r2 0 10 .nil
def Hu:Hint where
 acts:=fun _=>[]
 draws:=fun
  | 1=>⟨hi261_1,[[],[0],[],[0,1,2],[0,1,2,3],.range 5,[],[6],.range 8,.range 9],.range 10⟩
  | _=>⟨.nil,[],[]⟩
theorem TB (i:Nat):Hu.acts i=[]:=rfl
theorem TC (i:Nat):Hu.views i=none:=rfl
attribute[go_sem] TB TC ntmps261 results261
@[go_sem] theorem Xy:(Hu.draws 1).order=hi261_1:=rfl
instance k261 {s:GShow} {v1:GState} {node:Int}:Ctr (cX s v1 node) (fun (res:Int)=>ak prog 261 [.agg (GShow.encS s),.agg (GState.encS v1),.lit (.int .i64 node)] [] (.lit (.int .i64 res)) []):=⟨by
 intro res h0
 refine co (hi:=Hu) func261 rfl rfl ?_
 unfold cX at h0
 exact run⟩
instance k294 {i:Int} {v1:GState} {s:GShow}:Ctr (lW i v1 s) (fun (res:Bool)=>ak prog 294 [.lit (.int .i64 i),.loc [.lit (.int .i64 v1.now),.sl (ab eI v1.times),.sl (ab eI v1.values)],.loc [.sl (ab GNode.encS s.nodes),.sl (ab GTie.enc s.ties),.lit (.int .i64 s.horizon)]] [] (.lit (.bool res)) []):=⟨by
 intro res h0
 refine co (hi:=hi00) func294 rfl rfl ?_
 unfold lW at h0
 exact run⟩
instance k250 {s:GShow} {v1:GState}:Ctr (mz s v1) (fun (res:List Int)=>ak prog 250 [.agg (GShow.encS s),.agg (GState.encS v1)] [] (.ref 20000 1 0 res.length) [(20000,1,.row false (ab eI res))]):=⟨by
 intro res h0
 refine aw (ra:=[.home 4,.trim 4]) (md:=mdT) hT (hi:=hi00) func250 rfl rfl (by decide +kernel) (by simp) ?_
 unfold mz at h0
 obtain⟨r01,g0,h0⟩:=ae h0
 simp(config:=cS)only[go_sem, *]
 have g0:=ctr g0
 refine ag g0 ?_
 obtain⟨r02,g0,h0⟩:=ae h0
 simp(config:=cS)only[go_sem, *]
 refine ag (pk (by exact fun _ _ hr=>by have q:=ctr hr;exact q) (by refine⟨fun _=>?_,fun _=>?_⟩ <;> simp only[go_sem]) (fun _=>rfl) rfl g0) ?_
 exact run⟩
def pP (a:List Int):(Int × (List (List Int)))→St
 | (c,b)=>⟨[(5,.ref 640 1 0 a.length),(6,.ref 447 1 0 b.length),(7,.lit (.int .i64 c))],[(640,1,.row false (ab eI a)),(447,1,.row true (ab (eLO eI) b))],2⟩
attribute[go_sem] pP
instance k174 {s:GShow} {v1:GState}:Ctr (fc s v1) (fun (res:List (List Int))=>ak prog 174 [.agg (GShow.encS s),.agg (GState.encS v1)] [] (.ref 20000 1 0 res.length) [(20000,1,.row true (ab (eLO eI) res))]):=⟨by
 intro res h0
 refine aw (ra:=[.home 4]) (md:=mdT) hT (hi:=hi00) func174 rfl rfl (by decide +kernel) (by simp) ?_
 unfold fc at h0
 obtain⟨r01,g0,h0⟩:=ae h0
 simp(config:=cS)only[go_sem, *]
 have g0:=ctr g0
 refine ag g0 ?_
 obtain⟨_,h0⟩:=ckN h0
 obtain⟨q03,l0,h0⟩:=ae h0
 simp(config:=cS)only[go_sem, *]
 refine ah (m1:=.mk) (m2:=.mk) [.home 6,.nf [5,6,7] [640,447]] (pP r01) l0 ?_ ?_
 ·simp(config:=cS)only[go_sem, *]
 ·have k0:=h0
  clear h0 l0
  intro _ s0 _ h0 gb0
  obtain⟨set_1,out_1⟩:=s0
  unfold gY at h0
  try dsimp only at h0
  exact run⟩
def rJ (h:List Int)(i:Int)(j:List GNode)(k:List GTie)(l e:Int)(f g:List Int)(d:Int)(b:List Int):(Int × (List Int) × (List Int))→St
 | (m,a,c)=>⟨[(3,.ptr 192 1 0 0),(4,.ptr 256 1 0 0),(6,.ptr 384 1 0 0),(8,.ptr 512 1 0 0),(9,.ref 639 1 0 a.length),(14,.sl (ab eI h)),(15,.lit (.int .i64 i)),(16,.lit (.int .i64 m))],[(192,1,.var [.sl (ab GNode.encS j),.sl (ab GTie.enc k),.lit (.int .i64 l)]),(256,1,.var [.lit (.int .i64 e),.sl (ab eI f),.sl (ab eI g)]),(384,1,.var [.lit (.int .i64 0),.lit (.slice none 0 0),.lit (.slice none 0 0)]),(512,1,.var [.lit (.int .i64 d),.ref 832 1 0 c.length,.ref 833 1 0 b.length]),(832,1,.row true (ab eI c)),(833,1,.row true (ab eI b)),(639,1,.row true (ab eI a))],2⟩
attribute[go_sem] rJ
instance k175 {s:GShow} {v1:GState} {nodes:List Int}:Ctr (iA s v1 nodes) (fun (res:GState × (List Int))=>ak prog 175 [.agg (GShow.encS s),.agg (GState.encS v1),.sl (ab eI nodes)] [] (.tup [.agg [.lit (.int .i64 res.1.now),.ref 20000 1 0 res.1.times.length,.ref 20001 1 0 res.1.values.length],.ref 20002 1 0 res.2.length]) [(20000,1,.row true (ab eI res.1.times)),(20001,1,.row true (ab eI res.1.values)),(20002,1,.row true (ab eI res.2))]):=⟨by
 intro res h0
 refine aw (ra:=[.homeCell 384 1,.homeCell 384 2,.home 7]) (md:=mdT) hT (hi:=hi00) func175 rfl rfl (by decide +kernel) (by simp) ?_
 unfold iA at h0
 obtain⟨r01,g0,h0⟩:=ae h0
 simp(config:=cS)only[go_sem, *]
 have g0:=ctr g0
 refine ag g0 ?_
 obtain⟨q06,l0,h0⟩:=ae h0
 simp(config:=cS)only[go_sem, *]
 refine ah (m1:=.mk) (m2:=.mk) [.home 9,.nf [3,4,6,8,9,14,15,16] [192,256,384,512,832,833,639]] (rJ nodes ((nodes.length:Nat):Int) s.nodes s.ties s.horizon v1.now v1.times v1.values r01.now r01.values) l0 ?_ ?_
 ·simp(config:=cS)only[go_sem, *]
 ·have k0:=h0
  clear h0 l0
  intro _ s0 _ h0 gb0
  obtain⟨v16_1,props_1,h832_1⟩:=s0
  unfold jH at h0
  try dsimp only at h0
  obtain⟨_,h0⟩|⟨_,h0⟩:=itP h0
  ·exact run
  ·cases h0
   obtain rfl:=(aI gb0).symm
   clear gb0
   have h0:=k0
   clear k0
   try dsimp only at h0
   obtain⟨r05,g0,h0⟩:=ae h0
   simp(config:=cS)only[go_sem, *]
   refine ag (tM g0) ?_
   exact run⟩
def qO (a e:List Int)(f d:Int)(b:List Int):(Int × (List Int))→St
 | (g,c)=>⟨[(2,.sl (ab eI a)),(6,.ptr 384 1 0 0),(7,.ptr 448 1 0 0),(12,.sl (ab eI e)),(13,.lit (.int .i64 f)),(14,.lit (.int .i64 g))],[(384,1,.var [.lit (.int .i64 0),.lit (.slice none 0 0),.lit (.slice none 0 0)]),(448,1,.var [.lit (.int .i64 d),.ref 704 1 0 b.length,.ref 705 1 0 c.length]),(704,1,.row true (ab eI b)),(705,1,.row true (ab eI c))],2⟩
attribute[go_sem] qO
@[go_sem] def hi177_5:DT:=.r2 0 10 .nil
def Hv:Hint where
 acts:=fun _=>[]
 draws:=fun
  | 5=>⟨hi177_5,[[],[0],[],[2],[],[],[4,5],[4,5,6],.range 8,.range 9],.range 10⟩
  | _=>⟨.nil,[],[]⟩
theorem TD (i:Nat):Hv.acts i=[]:=rfl
theorem TE (i:Nat):Hv.views i=none:=rfl
attribute[go_sem] TD TE ntmps177 results177
@[go_sem] theorem Xz:(Hv.draws 5).order=hi177_5:=rfl
instance k177 {v0:GState} {props:List Int} {values:List Int}:Ctr (gb v0 props values) (fun (res:GState)=>ak prog 177 [.agg (GState.encS v0),.sl (ab eI props),.sl (ab eI values)] [] (.agg [.lit (.int .i64 res.now),.ref 20000 1 0 res.times.length,.ref 20001 1 0 res.values.length]) [(20000,1,.row true (ab eI res.times)),(20001,1,.row true (ab eI res.values))]):=⟨by
 intro res h0
 refine aw (ra:=[.homeCell 384 1,.homeCell 384 2]) (md:=mdT) hT (hi:=Hv) func177 rfl rfl (by decide +kernel) (by simp) ?_
 unfold gb at h0
 obtain⟨r01,g0,h0⟩:=ae h0
 simp(config:=cS)only[go_sem, *]
 have g0:=ctr g0
 refine ag g0 ?_
 obtain⟨q05,l0,h0⟩:=ae h0
 simp(config:=cS)only[go_sem, *]
 refine ah (m1:=.mk) (m2:=.mk) [.nf [2,6,7,12,13,14] [384,448,704,705]] (qO values props ((props.length:Nat):Int) r01.now r01.times) l0 ?_ ?_
 ·simp(config:=cS)only[go_sem, *]
 ·have k0:=h0
  clear h0 l0
  intro _ s0 _ h0 gb0
  obtain⟨v14_1,h705_1⟩:=s0
  unfold iT at h0
  try dsimp only at h0
  exact run⟩
def tq (g:List Int)(h e:Int)(b c d:List Int):(Int × (List Int) × (List Int))→St
 | (i,f,a)=>⟨[(6,.ptr 384 1 0 0),(9,.ptr 576 1 0 0),(10,.ref 3458 1 0 d.length),(11,.ref 767 1 0 f.length),(12,.ref 831 1 0 a.length),(58,.sl (ab eI g)),(59,.lit (.int .i64 h)),(60,.lit (.int .i64 i))],[(384,1,.var [.lit (.int .i64 0),.lit (.slice none 0 0),.lit (.slice none 0 0)]),(576,1,.var [.lit (.int .i64 e),.ref 3456 1 0 b.length,.ref 3457 1 0 c.length]),(3456,1,.row true (ab eI b)),(3457,1,.row true (ab eI c)),(3458,1,.row true (ab eI d)),(767,1,.row true (ab eI f)),(831,1,.row true (ab eI a))],2⟩
attribute[go_sem] tq
@[go_sem] def hi88_4:DT:=.i2 0 (.i2 1 (.i1 3 (.i1 4 (.i0 2 [3,4] (.i2 5 (.i2 6 .nil))))))
@[go_sem] def hi88_1:DT:=.r2 0 8 (.i1 9 (.i1 10 (.i0 8 [9,10] (.r2 11 9 .nil))))
def hi88:Hint where
 acts:=fun _=>[]
 draws:=fun
  | 1=>⟨hi88_1,[[],[0],[],[2],[0,1,2,3],.range 5,.range 6,.range 6,.range 8,.range 6,[0,1,2,3,4,5,9],.range 11,.range 12,.range 13,.range 14,.range 15,.range 16,.range 17,.range 18,.range 19],.range 20⟩
  | 4=>⟨hi88_4,[[],[],[0,1],[],[3],.range 5,.range 6],.range 7⟩
  | _=>⟨.nil,[],[]⟩
theorem Vu (i:Nat):hi88.acts i=[]:=rfl
theorem Vv (i:Nat):hi88.views i=none:=rfl
attribute[go_sem] Vu Vv ntmps88 results88
@[go_sem] theorem Yk:(hi88.draws 1).order=hi88_1:=rfl
@[go_sem] theorem Yl:(hi88.draws 4).order=hi88_4:=rfl
instance k88 {s:GShow} {v1:GState} {e:GEntry}:Ctr (oE s v1 e) (fun (res:GState × Bool)=>ak prog 88 [.agg (GShow.encS s),.agg (GState.encS v1),.agg (GEntry.encS e)] [] (.tup [.agg [.lit (.int .i64 res.1.now),.ref 20000 1 0 res.1.times.length,.ref 20001 1 0 res.1.values.length],.lit (.bool res.2)]) [(20000,1,.row true (ab eI res.1.times)),(20001,1,.row true (ab eI res.1.values))]):=⟨by
 intro res h0
 refine aw (ra:=[.homeCell 384 1,.homeCell 384 2]) (md:=mdT) hT (hi:=hi88) func88 rfl rfl (by decide +kernel) (by simp) ?_
 unfold oE at h0
 obtain⟨_,h0⟩|⟨_,h0⟩:=itP h0
 ·obtain⟨r01,g0,h0⟩:=ae h0
  simp(config:=cS)only[go_sem, *]
  have g0:=ctr g0
  refine ag g0 ?_
  obtain⟨r02,g0,h0⟩:=ae h0
  simp(config:=cS)only[go_sem, *]
  have g0:=ctr g0
  refine ag g0 ?_
  obtain⟨_,h0⟩|⟨_,h0⟩:=itB h0
  ·obtain⟨r03,g0,h0⟩:=ae h0
   simp(config:=cS)only[go_sem, *]
   have g0:=ctr g0
   refine ag g0 ?_
   obtain⟨_,h0⟩|⟨_,h0⟩:=itB h0
   ·obtain⟨r04,g0,h0⟩:=ae h0
    simp(config:=cS)only[go_sem, *]
    have g0:=ctr g0
    refine ag g0 ?_
    obtain⟨r05,g0,h0⟩:=ae h0
    simp(config:=cS)only[go_sem, *]
    have g0:=ctr g0
    refine ag g0 ?_
    obtain⟨r06,g0,h0⟩:=ae h0
    simp(config:=cS)only[go_sem, *]
    have g0:=ctr g0
    refine ag g0 ?_
    obtain⟨_,h0⟩|⟨_,h0⟩:=itB h0
    ·obtain⟨r07,g0,h0⟩:=ae h0
     simp(config:=cS)only[go_sem, *]
     have g0:=ctr g0
     refine ag g0 ?_
     obtain⟨q13,l0,h0⟩:=ae h0
     simp(config:=cS)only[go_sem, *]
     refine ah (m1:=.mk) (m2:=.mk) [.home 11,.home 12,.nf [6,9,10,11,12,58,59,60] [384,576,3456,3457,3458,767,831]] (tq e.values ((e.values.length:Nat):Int) r07.1.now r07.1.times r07.1.values r07.2) l0 ?_ ?_
     ·simp(config:=cS)only[go_sem, *]
     ·have k0:=h0
      clear h0 l0
      intro _ s0 _ h0 gb0
      obtain⟨v60_1,seen_1,values_1⟩:=s0
      unfold ls at h0
      try dsimp only at h0
      exact run
    ·exact run
   ·exact run
  ·exact run
 ·exact run⟩
def pQ (d:List GEntry)(e:Int)(f:List GNode)(g:List GTie)(h:Int):(Int × Int × (List Int) × (List Int))→St
 | (i,c,a,b)=>⟨[(2,.ptr 128 1 0 0),(4,.ptr 256 1 0 0),(6,.ptr 384 1 0 0),(17,.sl (ab GEntry.encS d)),(18,.lit (.int .i64 e)),(19,.lit (.int .i64 i))],[(128,1,.var [.sl (ab GNode.encS f),.sl (ab GTie.enc g),.lit (.int .i64 h)]),(256,1,.var [.lit (.int .i64 0),.lit (.slice none 0 0),.lit (.slice none 0 0)]),(384,1,.var [.lit (.int .i64 c),.ref 1024 1 0 a.length,.ref 1025 1 0 b.length]),(1024,1,.row true (ab eI a)),(1025,1,.row true (ab eI b))],2⟩
attribute[go_sem] pQ
instance k28 {s:GShow} {log:List GEntry}:Ctr (ky s log) (fun (res:GState × Bool)=>ak prog 28 [.agg (GShow.encS s),.sl (ab GEntry.encS log)] [] (.tup [.agg [.lit (.int .i64 res.1.now),.ref 20000 1 0 res.1.times.length,.ref 20001 1 0 res.1.values.length],.lit (.bool res.2)]) [(20000,1,.row true (ab eI res.1.times)),(20001,1,.row true (ab eI res.1.values))]):=⟨by
 intro res h0
 refine aw (ra:=[.homeCell 256 1,.homeCell 256 2]) (md:=mdT) hT (hi:=hi00) func28 rfl rfl (by decide +kernel) (by simp) ?_
 unfold ky at h0
 obtain⟨r01,g0,h0⟩:=ae h0
 simp(config:=cS)only[go_sem, *]
 have g0:=ctr g0
 refine ag g0 ?_
 obtain⟨_,h0⟩|⟨_,h0⟩:=itB h0
 ·obtain⟨r02,g0,h0⟩:=ae h0
  simp(config:=cS)only[go_sem, *]
  have g0:=ctr g0
  refine ag g0 ?_
  obtain⟨q05,l0,h0⟩:=ae h0
  simp(config:=cS)only[go_sem, *]
  refine ah (m1:=.mk) (m2:=.mk) [.nfp [2,4,6,17,18,19] [(128,128),(256,256),(384,384),(1728,1024),(1024,1024),(1729,1025),(1025,1025)] []] (pQ log ((log.length:Nat):Int) s.nodes s.ties s.horizon) l0 ?_ ?_
  ·simp(config:=cS)only[go_sem, *]
  ·have k0:=h0
   clear h0 l0
   intro _ s0 _ h0 gb0
   obtain⟨v19_1,v6_0_1,h1024_1,h1025_1⟩:=s0
   unfold gZ at h0
   try dsimp only at h0
   exact run
 ·exact run⟩
instance k30 {a:GState} {b:GState}:Ctr (jI a b) (fun (res:Bool)=>ak prog 30 [.agg (GState.encS a),.agg (GState.encS b)] [] (.lit (.bool res)) []):=⟨by
 intro res h0
 refine co (hi:=hi00) func30 rfl rfl ?_
 unfold jI at h0
 exact run⟩
instance k75 {d:GDesk}:Ctr (kO d) (fun (res:Bool)=>ak prog 75 [.agg (GDesk.encS d)] [] (.lit (.bool res)) []):=⟨by
 intro res h0
 refine co (hi:=hi00) func75 rfl rfl ?_
 unfold kO at h0
 exact run⟩
@[go_sem] def hi168_1:DT:=.i1 0 (.i1 1 (.i1 2 (.i1 3 (.i1 4 (.i1 5 (.i2 6 (.i1 7 (.i1 8 (.i1 9 (.i1 10 (.i1 11 (.i2 12 (.i1 13 (.i1 14 (.i2 15 (.i2 16 (.i0 17 [0,1,2,3,4,5,7,8,9,10,11,13,14] (.r2 18 4 .nil))))))))))))))))))
def Hw:Hint where
 acts:=fun _=>[]
 draws:=fun
  | 1=>⟨hi168_1,[[],[0],[],[2],[],[4],[],[4,5,6],[4,5,6,7],[4,5,6,7,8],[2,3,4,5,6,7,8,9],[2,3,4,5,6,7,8,9,10],.range 12,[],[13],[],[],[15,16],[13,14,15,16,17],[13,14,15,16,17,18],.range 20,.range 21],.range 22⟩
  | _=>⟨.nil,[],[]⟩
theorem TF (i:Nat):Hw.acts i=[]:=rfl
theorem TG (i:Nat):Hw.views i=none:=rfl
attribute[go_sem] TF TG ntmps168 results168
@[go_sem] theorem XA:(Hw.draws 1).order=hi168_1:=rfl
instance k168 {i:Int} {v1:GState} {s:GShow} {v3:GChoice} {free:List Int}:Ctr (kE i v1 s v3 free) (fun (res:Bool)=>ak prog 168 [.lit (.int .i64 i),.loc [.lit (.int .i64 v1.now),.sl (ab eI v1.times),.sl (ab eI v1.values)],.loc [.sl (ab GNode.encS s.nodes),.sl (ab GTie.enc s.ties),.lit (.int .i64 s.horizon)],.loc [.sl (ab eI v3.lengths),.sl (ab eI v3.values)],.loc [.sl (ab eI free)]] [] (.lit (.bool res)) []):=⟨by
 intro res h0
 refine co (hi:=Hw) func168 rfl rfl ?_
 unfold kE at h0
 exact run⟩
instance k87 {s:GShow} {v1:GState} {v2:GChoice}:Ctr (kz s v1 v2) (fun (res:List Int)=>ak prog 87 [.agg (GShow.encS s),.agg (GState.encS v1),.agg [.sl (ab eI v2.lengths),.sl (ab eI v2.values)]] [] (.ref 20000 1 0 res.length) [(20000,1,.row false (ab eI res))]):=⟨by
 intro res h0
 refine aw (ra:=[.home 6,.trim 6]) (md:=mdT) hT (hi:=hi00) func87 rfl rfl (by decide +kernel) (by simp) ?_
 unfold kz at h0
 obtain⟨r01,g0,h0⟩:=ae h0
 simp(config:=cS)only[go_sem, *]
 have g0:=ctr g0
 refine ag g0 ?_
 obtain⟨_,h0⟩|⟨_,h0⟩:=itB h0
 ·obtain⟨r02,g0,h0⟩:=ae h0
  simp(config:=cS)only[go_sem, *]
  have g0:=ctr g0
  refine ag g0 ?_
  obtain⟨_,h0⟩|⟨_,h0⟩:=itB h0
  ·obtain⟨r03,g0,h0⟩:=ae h0
   simp(config:=cS)only[go_sem, *]
   have g0:=ctr g0
   refine ag g0 ?_
   obtain⟨r04,g0,h0⟩:=ae h0
   simp(config:=cS)only[go_sem, *]
   have g0:=ctr g0
   refine ag g0 ?_
   obtain⟨r05,g0,h0⟩:=ae h0
   simp(config:=cS)only[go_sem, *]
   refine ag (pk (by exact fun _ _ hr=>by have q:=ctr hr;exact q) (by refine⟨fun _=>?_,fun _=>?_⟩ <;> simp only[go_sem]) (fun _=>rfl) rfl g0) ?_
   exact run
  ·exact run
 ·exact run⟩
instance k240 {v:Int}:Ctr (hU v) (fun (res:Bool)=>ak prog 240 [.lit (.int .i64 v)] [] (.lit (.bool res)) []):=⟨by
 intro res h0
 refine co (hi:=hi00) func240 rfl rfl ?_
 unfold hU at h0
 exact run⟩
@[go_sem] def hi260_1:DT:=.r2 0 14 .nil
def Hx:Hint where
 acts:=fun _=>[]
 draws:=fun
  | 1=>⟨hi260_1,[[],[0],[],[2],[0,1,2,3],.range 5,[],[6],[],[8],[6,7,8,9],[6,7,8,9,10],.range 6,.range 13],[0,1,2,3,4,5,7,8,9,10,11,12,6,13]⟩
  | _=>⟨.nil,[],[]⟩
theorem TH (i:Nat):Hx.acts i=[]:=rfl
theorem TJ (i:Nat):Hx.views i=none:=rfl
attribute[go_sem] TH TJ ntmps260 results260
@[go_sem] theorem XB:(Hx.draws 1).order=hi260_1:=rfl
instance k260 {s:GShow} {v1:GState} {t:GTie}:Ctr (iU s v1 t) (fun (res:Bool)=>ak prog 260 [.agg (GShow.encS s),.agg (GState.encS v1),.agg (GTie.enc t)] [] (.lit (.bool res)) []):=⟨by
 intro res h0
 refine co (hi:=Hx) func260 rfl rfl ?_
 unfold iU at h0
 exact run⟩
instance k259 {t:GTie} {s:GShow} {v2:GState}:Ctr (lu t s v2) (fun (res:Bool)=>ak prog 259 [.agg (GTie.enc t),.loc [.sl (ab GNode.encS s.nodes),.sl (ab GTie.enc s.ties),.lit (.int .i64 s.horizon)],.loc [.lit (.int .i64 v2.now),.sl (ab eI v2.times),.sl (ab eI v2.values)]] [] (.lit (.bool res)) []):=⟨by
 intro res h0
 refine co (hi:=hi00) func259 rfl rfl ?_
 unfold lu at h0
 exact run⟩
def rK (c:List Int)(h:Int)(d:List GNode)(e:List GTie)(f a:Int)(b:List Int)(g:Int):St:=⟨[(2,.ptr 128 1 0 0),(3,.ptr 192 1 0 0),(8,.sl (ab eI c)),(9,.lit (.int .i64 h)),(10,.lit (.int .i64 g))],[(128,1,.var [.sl (ab GNode.encS d),.sl (ab GTie.enc e),.lit (.int .i64 f)]),(192,1,.var [.lit (.int .i64 a),.sl (ab eI c),.sl (ab eI b)])],2⟩
attribute[go_sem] rK
instance k190 {s:GShow} {v1:GState}:Ctr (fP s v1) (fun (res:Bool)=>ak prog 190 [.agg (GShow.encS s),.agg (GState.encS v1)] [] (.lit (.bool res)) []):=⟨by
 intro res h0
 refine co (hi:=hi00) func190 rfl rfl ?_
 unfold fP at h0
 obtain⟨q03,l0,h0⟩:=ae h0
 simp(config:=cS)only[go_sem, *]
 refine ah (m1:=.mk) (m2:=.mk) [.nf [2,3,8,9,10] [128,192]] (rK v1.times ((v1.times.length:Nat):Int) s.nodes s.ties s.horizon v1.now v1.values) l0 ?_ ?_
 ·simp(config:=cS)only[go_sem, *]
 ·have k0:=h0
  clear h0 l0
  intro _ v10_1 _ h0 gb0
  unfold gD at h0
  try dsimp only at h0
  exact run⟩
instance k189 {s:GShow} {v1:GState}:Ctr (gd s v1) (fun (res:Bool)=>ak prog 189 [.agg (GShow.encS s),.agg (GState.encS v1)] [] (.lit (.bool res)) []):=⟨by
 intro res h0
 refine co (hi:=hi00) func189 rfl rfl ?_
 unfold gd at h0
 obtain⟨r01,g0,h0⟩:=ae h0
 simp(config:=cS)only[go_sem, *]
 refine ag (nT (by exact fun _ _ hr=>by have q:=ctr hr;exact q) (by refine⟨fun _=>?_,fun _=>?_⟩ <;> simp only[go_sem]) (fun _=>rfl) rfl g0) ?_
 exact run⟩
instance k96 {s:GShow}:Ctr (oT s) (fun (res:GShow × (List (ByteArray × Bool)))=>ak prog 96 [.agg (GShow.encS s)] [] (.ptr 20000 1 0 0) [(20000,1,.var [.sl (ab GNode.encS res.1.nodes),.sl (ab GTie.enc res.1.ties),.lit (.int .i64 res.1.horizon),.mp 20001 1]),(20001,1,.map (eM res.2))]):=⟨by
 intro res h0
 refine co (hi:=hi00) func96 rfl rfl ?_
 unfold oT at h0
 exact run⟩
def uv (a:List Int)(e c:Int)(d:List Int):(Int × (List Int))→St
 | (f,b)=>⟨[(1,.ptr 64 1 0 0),(3,.ref 704 1 0 b.length),(13,.sl (ab eI a)),(14,.lit (.int .i64 e)),(15,.lit (.int .i64 f))],[(64,1,.var [.lit (.int .i64 c),.sl (ab eI a),.sl (ab eI d)]),(704,1,.row true (ab (eK .u8) b))],2⟩
attribute[go_sem] uv
def uw (b:List Int)(c:Int):(Int × (List Int))→St
 | (d,a)=>⟨[(3,.ref 704 1 0 a.length),(27,.sl (ab eI b)),(28,.lit (.int .i64 c)),(29,.lit (.int .i64 d))],[(704,1,.row true (ab (eK .u8) a))],2⟩
attribute[go_sem] uw
instance k191 {v0:GState}:Ctr (rW v0) (fun (res:ByteArray)=>ak prog 191 [.agg (GState.encS v0)] [] (.lit (.string res)) []):=⟨by
 intro res h0
 refine co (hi:=hi00) func191 rfl rfl ?_
 unfold rW at h0
 obtain⟨q04,l0,h0⟩:=ae h0
 simp(config:=cS)only[go_sem, *]
 refine ah (m1:=.mk) (m2:=.mk) [.nf [1,3,13,14,15] [64,704]] (uv v0.times ((v0.times.length:Nat):Int) v0.now v0.values) l0 ?_ ?_
 ·simp(config:=cS)only[go_sem, *]
 ·have k0:=h0
  clear h0 l0
  intro _ s0 _ h0 gb0
  obtain⟨v15_1,out_1⟩:=s0
  unfold nG at h0
  try dsimp only at h0
  obtain⟨_,h0⟩|⟨_,h0⟩:=itP h0
  ·exact run
  ·cases h0
   obtain rfl:=(aI gb0).symm
   clear gb0
   have h0:=k0
   clear k0
   try dsimp only at h0
   obtain⟨q03,l0,h0⟩:=ae h0
   simp(config:=cS)only[go_sem, *]
   refine ah (m1:=.mk) (m2:=.mk) [.nf [3,27,28,29] [704]] (uw v0.values ((v0.values.length:Nat):Int)) l0 ?_ ?_
   ·simp(config:=cS)only[go_sem, *]
   ·have k0:=h0
    clear h0 l0
    intro _ s0 _ h0 gb0
    obtain⟨v29_2,out_2⟩:=s0
    unfold nH at h0
    try dsimp only at h0
    exact run⟩
def mP (a:List Int)(b c:Int):St:=⟨[(0,.sl (ab eI a)),(9,.sl (ab eI a)),(10,.lit (.int .i64 b)),(11,.lit (.int .i64 c))],[],2⟩
attribute[go_sem] mP
def mQ (b:List Int)(n d:Int)(c:List (List Int)):(Int × (List Int))→St
 | (e,a)=>⟨[(0,.sl (ab eI b)),(5,.ref 383 1 0 c.length),(6,.lit (.int .i64 n)),(7,.ref 511 1 0 a.length),(44,.lit (.int .i64 d)),(45,.lit (.int .i64 e))],[(383,1,.row true (ab (eLO eI) c)),(511,1,.row true (ab eI a))],2⟩
attribute[go_sem] mQ
def mR (a:List Int):(Int × (List (List Int)))→St
 | (n,b)=>⟨[(0,.sl (ab eI a)),(5,.ref 383 1 0 b.length),(6,.lit (.int .i64 n))],[(383,1,.row true (ab (eLO eI) b))],2⟩
attribute[go_sem] mR
instance k288 {props:List Int}:Ctr (fQ props) (fun (res:List (List Int))=>ak prog 288 [.sl (ab eI props)] [] (.ref 20000 1 0 res.length) [(20000,1,.row true (ab (eLO eI) res))]):=⟨by
 intro res h0
 refine aw (ra:=[.home 2]) (md:=mdT) hT (hi:=hi00) func288 rfl rfl (by decide +kernel) (by simp) ?_
 unfold fQ at h0
 obtain⟨q05,l0,h0⟩:=ae h0
 simp(config:=cS)only[go_sem, *]
 refine ah (m1:=.mk) (m2:=.mk) [.nf [0,9,10,11] []] (mP props ((props.length:Nat):Int)) l0 ?_ ?_
 ·simp(config:=cS)only[go_sem, *]
 ·have k0:=h0
  clear h0 l0
  intro _ v11_1 _ h0 gb0
  unfold dM at h0
  try dsimp only at h0
  obtain⟨_,h0⟩|⟨_,h0⟩:=itP h0
  ·exact run
  ·cases h0
   obtain rfl:=(aI gb0).symm
   clear gb0
   have h0:=k0
   clear k0
   try dsimp only at h0
   obtain⟨q04,l0,h0⟩:=ae h0
   simp(config:=cS)only[go_sem, *]
   refine ah (m1:=.mk) (m2:=.mk) [.home 5,.nf [0,5,6] [383]] (mR props) l0 ?_ ?_
   ·simp(config:=cS)only[go_sem, *]
   ·have k0:=h0
    clear h0 l0
    intro _ s0 _ h0 gb0
    obtain⟨n_2,out_2⟩:=s0
    unfold dO at h0
    try dsimp only at h0
    obtain⟨_,h0⟩:=ckN h0
    obtain⟨_,h0⟩|⟨_,h0⟩:=itP h0
    ·obtain⟨q03,l0,h0⟩:=ae h0
     simp(config:=cS)only[go_sem, *]
     refine ah (m1:=.mk) (m2:=.mk) [.home 7,.nf [0,5,6,7,44,45] [383,511]] (mQ props n_2 ((props.length:Nat):Int) out_2) l0 ?_ ?_
     ·simp(config:=cS)only[go_sem, *]
     ·have k0:=h0
      clear h0 l0
      intro _ s0 _ h0 gb0
      obtain⟨v45_3,values_3⟩:=s0
      unfold dN at h0
      try dsimp only at h0
      exact run
    ·exact run⟩
def kc (g d:Int)(a b c:List Int)(f:List (List Int))(h:List GNode)(i:List GTie)(j:Int):(Int × (List (ByteArray × Bool)))→St
 | (k,e)=>⟨[(0,.ptr 10000 0 0 0),(7,.ptr 448 1 0 0),(8,.ref 1154 1 0 c.length),(22,.ref 1408 1 0 f.length),(23,.lit (.int .i64 g)),(24,.lit (.int .i64 k))],[(10000,0,.var [.sl (ab GNode.encS h),.sl (ab GTie.enc i),.lit (.int .i64 j),.mp 10001 0]),(10001,0,.map (eM e)),(448,1,.var [.lit (.int .i64 d),.ref 1152 1 0 a.length,.ref 1153 1 0 b.length]),(1152,1,.row true (ab eI a)),(1153,1,.row true (ab eI b)),(1154,1,.row true (ab eI c)),(1408,1,.tree (ab (eLS eI) f))],2⟩
attribute[go_sem] kc
@[go_sem] def hi242_1:DT:=.i2 0 (.i1 1 (.i1 2 (.i1 3 (.i1 4 (.i2 5 (.fork (.i2 6 (.i2 7 (.i2 8 (.i2 9 (.i0 10 [1,2,3,4] (.i2 11 (.i2 12 .nil))))))) (.i0 10 [1,2,3,4] (.i2 6 (.i2 7 (.i2 8 (.i2 9 (.i2 11 (.i2 12 .nil)))))))))))))
def Hy:Hint where
 acts:=fun _=>[]
 draws:=fun
  | 1=>⟨hi242_1,[[],[0],[0,1],[0,1,2],[],[],.range 6,.range 7,.range 8,.range 8,[],[0,1,2,3,4,5,6,7,8,10],.range 12],[0,1,2,3,4,5,6,7,8,11,9,10,12]⟩
  | _=>⟨.nil,[],[]⟩
@[go_sem] theorem Ym (i:Nat):Hy.acts i=[]:=rfl
theorem TL (i:Nat):Hy.views i=none:=rfl
attribute[go_sem] TL ntmps242 results242
@[go_sem] theorem XC:(Hy.draws 1).order=hi242_1:=rfl
theorem rL {rec:GShow→(List (ByteArray × Bool))→GState→Option (Bool × (List (ByteArray × Bool)))}(hrec:∀ {g_s:GShow} {g_known:List (ByteArray × Bool)} {v1:GState} {res:Bool × (List (ByteArray × Bool))},rec g_s g_known v1=some res→ak prog 97 [.ptr 10000 0 0 0,.agg (GState.encS v1)] [(10000,0,.var [.sl (ab GNode.encS g_s.nodes),.sl (ab GTie.enc g_s.ties),.lit (.int .i64 g_s.horizon),.mp 10001 0]),(10001,0,.map (eM g_known))] (.lit (.bool res.1)) [(10000,0,.var [.sl (ab GNode.encS g_s.nodes),.sl (ab GTie.enc g_s.ties),.lit (.int .i64 g_s.horizon),.mp 10001 0]),(10001,0,.map (eM res.2))]){g_s:GShow}{g_known:List (ByteArray × Bool)}{v1:GState}{nodes:List Int}{res:Bool × (List (ByteArray × Bool))}(h:eg rec g_s g_known v1 nodes=some res):ak prog 242 [.ptr 10000 0 0 0,.agg (GState.encS v1),.sl (ab eI nodes)] [(10000,0,.var [.sl (ab GNode.encS g_s.nodes),.sl (ab GTie.enc g_s.ties),.lit (.int .i64 g_s.horizon),.mp 10001 0]),(10001,0,.map (eM g_known))] (.lit (.bool res.1)) [(10000,0,.var [.sl (ab GNode.encS g_s.nodes),.sl (ab GTie.enc g_s.ties),.lit (.int .i64 g_s.horizon),.mp 10001 0]),(10001,0,.map (eM res.2))]:=by
 refine co (hi:=Hy) func242 rfl rfl ?_
 unfold eg at h
 try simp(config:=cS)only[go_sem]
 refine bq ?_ ?_
 ·obtain⟨r01,g1,h⟩:=ae h
  simp(config:=cS)only[go_sem]
  have g1:=ctr g1
  refine ag g1 ?_
  obtain⟨r02,g2,h⟩:=ae h
  simp(config:=cS)only[go_sem]
  have g2:=ctr g2
  refine ag g2 ?_
  obtain⟨q06,l3,h⟩:=ae h
  simp(config:=cS)only[go_sem]
  refine ah (m1:=.mk) (m2:=.mk) [.freeze [1408],.nf [0,7,8,22,23,24] [10000,10001,448,1152,1153,1154,1408]] (kc ((r02.length:Nat):Int) r01.1.now r01.1.times r01.1.values r01.2 r02 g_s.nodes g_s.ties g_s.horizon) l3 ?_ ?_
  ·simp(config:=cS)only[go_sem]
  ·intro nb4 sb4 bb4 b4 gb4
   obtain⟨v24_1,h10001_1⟩:=sb4
   unfold dB at b4
   try dsimp only at b4
   obtain⟨h5,b4⟩|⟨h5,b4⟩:=aZ b4
   ·obtain⟨x03,g6,b4⟩:=ae b4
    obtain⟨h7,h8,h9⟩:=eA g6
    obtain⟨r04,g10,b4⟩:=ae b4
    simp(config:=cS)only[go_sem,eqT h5,h7,h8,h9]
    have g10:=ctr g10
    refine ag g10 ?_
    obtain⟨r05,g11,b4⟩:=ae b4
    simp(config:=cS)only[go_sem,eqT h5,h7,h8,h9]
    refine ag (hrec g11) ?_
    obtain⟨h12,b4⟩|⟨h12,b4⟩:=aZ b4
    ·cases b4
     simp(config:=cS)only[go_sem,eqT h5,h7,h8,h9,eZt h12]
     refine ig gb4 ?_
     simp(config:=cS)only[go_sem,eqT h5,h7,h8,h9,eZt h12]
    ·cases b4
     obtain rfl:=(aI gb4).symm
     try dsimp only at h
     cases h
     simp(config:=cS)only[go_sem,eqT h5,h7,h8,h9,eZf h12]
   ·cases b4
    obtain rfl:=(aI gb4).symm
    try dsimp only at h
    cases h
    simp(config:=cS)only[go_sem,eqF h5]
 ·obtain⟨r07,g15,h⟩:=ae h
  simp(config:=cS)only[go_sem]
  have g15:=ctr g15
  refine ag g15 ?_
  obtain⟨r08,g16,h⟩:=ae h
  simp(config:=cS)only[go_sem]
  have g16:=ctr g16
  refine ag g16 ?_
  obtain⟨q12,l17,h⟩:=ae h
  simp(config:=cS)only[go_sem]
  refine ah (m1:=.mk) (m2:=.mk) [.freeze [1408],.nf [0,7,8,22,23,24] [10000,10001,448,1152,1153,1154,1408]] (kc ((r08.length:Nat):Int) r07.1.now r07.1.times r07.1.values r07.2 r08 g_s.nodes g_s.ties g_s.horizon) l17 ?_ ?_
  ·simp(config:=cS)only[go_sem]
  ·intro nb18 sb18 bb18 b18 gb18
   obtain⟨v24_2,h10001_2⟩:=sb18
   unfold dB at b18
   try dsimp only at b18
   obtain⟨h19,b18⟩|⟨h19,b18⟩:=aZ b18
   ·obtain⟨x09,g20,b18⟩:=ae b18
    obtain⟨h21,h22,h23⟩:=eA g20
    obtain⟨r10,g24,b18⟩:=ae b18
    simp(config:=cS)only[go_sem,eqT h19,h21,h22,h23]
    have g24:=ctr g24
    refine ag g24 ?_
    obtain⟨r11,g25,b18⟩:=ae b18
    simp(config:=cS)only[go_sem,eqT h19,h21,h22,h23]
    refine ag (hrec g25) ?_
    obtain⟨h26,b18⟩|⟨h26,b18⟩:=aZ b18
    ·cases b18
     simp(config:=cS)only[go_sem,eqT h19,h21,h22,h23,eZt h26]
     refine ig gb18 ?_
     simp(config:=cS)only[go_sem,eqT h19,h21,h22,h23,eZt h26]
    ·cases b18
     obtain rfl:=(aI gb18).symm
     try dsimp only at h
     cases h
     simp(config:=cS)only[go_sem,eqT h19,h21,h22,h23,eZf h26]
   ·cases b18
    obtain rfl:=(aI gb18).symm
    try dsimp only at h
    cases h
    simp(config:=cS)only[go_sem,eqF h19]
def pm (f c:Int)(d e:List Int)(b:List (List Int))(g:List GNode)(h:List GTie)(i:Int):(Int × (List (ByteArray × Bool)))→St
 | (j,a)=>⟨[(0,.ptr 10000 0 0 0),(3,.ptr 192 1 0 0),(13,.ref 832 1 0 b.length),(14,.lit (.int .i64 f)),(15,.lit (.int .i64 j))],[(10000,0,.var [.sl (ab GNode.encS g),.sl (ab GTie.enc h),.lit (.int .i64 i),.mp 10001 0]),(10001,0,.map (eM a)),(192,1,.var [.lit (.int .i64 c),.sl (ab eI d),.sl (ab eI e)]),(832,1,.tree (ab (eLS eI) b))],2⟩
attribute[go_sem] pm
@[go_sem] def hi163_1:DT:=.r2 0 5 (.i2 7 (.i2 5 (.i2 6 .nil)))
def Hz:Hint where
 acts:=fun _=>[]
 draws:=fun
  | 1=>⟨hi163_1,[[],[0],[0,1],[0,1,2],[],.range 5,.range 6,[]],.range 8⟩
  | _=>⟨.nil,[],[]⟩
@[go_sem] theorem Yn (i:Nat):Hz.acts i=[]:=rfl
theorem TM (i:Nat):Hz.views i=none:=rfl
attribute[go_sem] TM ntmps163 results163
@[go_sem] theorem XD:(Hz.draws 1).order=hi163_1:=rfl
theorem sD {rec:GShow→(List (ByteArray × Bool))→GState→Option (Bool × (List (ByteArray × Bool)))}(hrec:∀ {g_s:GShow} {g_known:List (ByteArray × Bool)} {v1:GState} {res:Bool × (List (ByteArray × Bool))},rec g_s g_known v1=some res→ak prog 97 [.ptr 10000 0 0 0,.agg (GState.encS v1)] [(10000,0,.var [.sl (ab GNode.encS g_s.nodes),.sl (ab GTie.enc g_s.ties),.lit (.int .i64 g_s.horizon),.mp 10001 0]),(10001,0,.map (eM g_known))] (.lit (.bool res.1)) [(10000,0,.var [.sl (ab GNode.encS g_s.nodes),.sl (ab GTie.enc g_s.ties),.lit (.int .i64 g_s.horizon),.mp 10001 0]),(10001,0,.map (eM res.2))]){g_s:GShow}{g_known:List (ByteArray × Bool)}{v1:GState}{res:(List Int) × Bool × (List (ByteArray × Bool))}(h:eJ rec g_s g_known v1=some res):ak prog 163 [.ptr 10000 0 0 0,.agg (GState.encS v1)] [(10000,0,.var [.sl (ab GNode.encS g_s.nodes),.sl (ab GTie.enc g_s.ties),.lit (.int .i64 g_s.horizon),.mp 10001 0]),(10001,0,.map (eM g_known))] (.tup [.sl (ab eI res.1),.lit (.bool res.2.1)]) [(10000,0,.var [.sl (ab GNode.encS g_s.nodes),.sl (ab GTie.enc g_s.ties),.lit (.int .i64 g_s.horizon),.mp 10001 0]),(10001,0,.map (eM res.2.2))]:=by
 refine aw (ra:=[.nilSl 4]) (md:=mdT) hT (hi:=Hz) func163 rfl rfl (by decide +kernel) (by simp) ?_
 unfold eJ at h
 obtain⟨r01,g1,h⟩:=ae h
 simp(config:=cS)only[go_sem]
 have g1:=ctr g1
 refine ag g1 ?_
 obtain⟨q04,l2,h⟩:=ae h
 simp(config:=cS)only[go_sem]
 refine ah (m1:=.mk) (m2:=.mk) [.freeze [832],.nf [0,3,13,14,15] [10000,10001,192,832]] (pm ((r01.length:Nat):Int) v1.now v1.times v1.values r01 g_s.nodes g_s.ties g_s.horizon) l2 ?_ ?_
 ·simp(config:=cS)only[go_sem]
 ·intro nb3 sb3 bb3 b3 gb3
  obtain⟨v15_1,h10001_1⟩:=sb3
  unfold gg at b3
  try dsimp only at b3
  obtain⟨h4,b3⟩|⟨h4,b3⟩:=aZ b3
  ·obtain⟨x02,g5,b3⟩:=ae b3
   obtain⟨h6,h7,h8⟩:=eA g5
   obtain⟨r03,g9,b3⟩:=ae b3
   simp(config:=cS)only[go_sem,eqT h4,h6,h7,h8]
   refine ag (rL @hrec g9) ?_
   obtain⟨h10,b3⟩|⟨h10,b3⟩:=aZ b3
   ·cases b3
    obtain rfl:=(aI gb3).symm
    try dsimp only at h
    cases h
    simp(config:=cS)only[go_sem,eqT h4,h6,h7,h8,eZt h10]
   ·cases b3
    simp(config:=cS)only[go_sem,eqT h4,h6,h7,h8,eZf h10]
    refine ig gb3 ?_
    simp(config:=cS)only[go_sem,eqT h4,h6,h7,h8,eZf h10]
  ·cases b3
   obtain rfl:=(aI gb3).symm
   try dsimp only at h
   cases h
   simp(config:=cS)only[go_sem,eqF h4]
def pR (k:ByteArray)(f c:Int)(d e:List Int)(b:List (List Int))(g:List GNode)(h:List GTie)(i:Int):(Int × (List (ByteArray × Bool)))→St
 | (j,a)=>⟨[(0,.ptr 10000 0 0 0),(3,.ptr 192 1 0 0),(5,.lit (.string k)),(8,.lit (.bool true)),(45,.ref 2880 1 0 b.length),(46,.lit (.int .i64 f)),(47,.lit (.int .i64 j))],[(10000,0,.var [.sl (ab GNode.encS g),.sl (ab GTie.enc h),.lit (.int .i64 i),.mp 10001 0]),(10001,0,.map (eM a)),(192,1,.var [.lit (.int .i64 c),.sl (ab eI d),.sl (ab eI e)]),(2880,1,.tree (ab (eLS eI) b))],2⟩
attribute[go_sem] pR
@[go_sem] def hi97_13:DT:=.r2 0 14 .nil
@[go_sem] def hi97_10:DT:=.r2 0 5 (.i2 7 (.i2 5 (.i2 6 .nil)))
@[go_sem] def hi97_3:DT:=.r2 0 7 .nil
@[go_sem] def hi97_1:DT:=.r2 0 7 .nil
def hi97:Hint where
 acts:=fun _=>[]
 draws:=fun
  | 1=>⟨hi97_1,[[],[0],[0,1],[0,1,2],[],.range 5,.range 6],.range 7⟩
  | 3=>⟨hi97_3,[[],[0],[0,1],[0,1,2],[],.range 5,.range 6],.range 7⟩
  | 10=>⟨hi97_10,[[],[0],[0,1],[0,1,2],[],.range 5,.range 6,[]],.range 8⟩
  | 13=>⟨hi97_13,[[],[],[1],[1,2],[1,2,3],[],[],[1,2,3,4,5,6],.range 8,.range 9,.range 10,.range 10,.range 11,.range 13],[0,1,2,3,4,5,6,7,8,9,10,12,11,13]⟩
  | _=>⟨.nil,[],[]⟩
@[go_sem] theorem YU (i:Nat):hi97.acts i=[]:=rfl
theorem Vw (i:Nat):hi97.views i=none:=rfl
attribute[go_sem] Vw ntmps97 results97
@[go_sem] theorem Yo:(hi97.draws 1).order=hi97_1:=rfl
@[go_sem] theorem Yp:(hi97.draws 3).order=hi97_3:=rfl
@[go_sem] theorem XE:(hi97.draws 10).order=hi97_10:=rfl
@[go_sem] theorem XF:(hi97.draws 13).order=hi97_13:=rfl
theorem xR {rec:GShow→(List (ByteArray × Bool))→GState→Option (Bool × (List (ByteArray × Bool)))}(hrec:∀ {g_s:GShow} {g_known:List (ByteArray × Bool)} {v1:GState} {res:Bool × (List (ByteArray × Bool))},rec g_s g_known v1=some res→ak prog 97 [.ptr 10000 0 0 0,.agg (GState.encS v1)] [(10000,0,.var [.sl (ab GNode.encS g_s.nodes),.sl (ab GTie.enc g_s.ties),.lit (.int .i64 g_s.horizon),.mp 10001 0]),(10001,0,.map (eM g_known))] (.lit (.bool res.1)) [(10000,0,.var [.sl (ab GNode.encS g_s.nodes),.sl (ab GTie.enc g_s.ties),.lit (.int .i64 g_s.horizon),.mp 10001 0]),(10001,0,.map (eM res.2))]){g_s:GShow}{g_known:List (ByteArray × Bool)}{v1:GState}{res:Bool × (List (ByteArray × Bool))}(h:iV rec g_s g_known v1=some res):ak prog 97 [.ptr 10000 0 0 0,.agg (GState.encS v1)] [(10000,0,.var [.sl (ab GNode.encS g_s.nodes),.sl (ab GTie.enc g_s.ties),.lit (.int .i64 g_s.horizon),.mp 10001 0]),(10001,0,.map (eM g_known))] (.lit (.bool res.1)) [(10000,0,.var [.sl (ab GNode.encS g_s.nodes),.sl (ab GTie.enc g_s.ties),.lit (.int .i64 g_s.horizon),.mp 10001 0]),(10001,0,.map (eM res.2))]:=by
 refine co (hi:=hi97) func97 rfl rfl ?_
 unfold iV at h
 obtain⟨r01,g1,h⟩:=ae h
 simp(config:=cS)only[go_sem]
 have g1:=ctr g1
 refine ag g1 ?_
 obtain⟨h2,h⟩|⟨h2,h⟩:=aZ h
 ·cases h
  simp(config:=cS)only[go_sem,eZt h2]
 ·obtain⟨r02,g3,h⟩:=ae h
  simp(config:=cS)only[go_sem,eZf h2]
  have g3:=ctr g3
  refine ag g3 ?_
  obtain⟨h4,h⟩|⟨h4,h⟩:=aZ h
  ·cases h
   simp(config:=cS)only[go_sem,eZf h2,eZt h4]
  ·obtain⟨r03,g5,h⟩:=ae h
   simp(config:=cS)only[go_sem,eZf h2,eZf h4]
   have g5:=ctr g5
   refine ag g5 ?_
   obtain⟨x04,g6,h8⟩|⟨g7,h8⟩:=Lp h
   ·cases h8
    simp(config:=cS)only[go_sem,eZf h2,eZf h4,g6]
   ·obtain⟨r05,g9,h8⟩:=ae h8
    simp(config:=cS)only[go_sem,eZf h2,eZf h4,g7]
    have g9:=ctr g9
    refine ag g9 ?_
    obtain⟨q09,l10,h8⟩:=ae h8
    simp(config:=cS)only[go_sem,eZf h2,eZf h4,g7]
    refine ah (m1:=.mk) (m2:=.mk) [.freeze [2880],.nf [0,3,5,8,45,46,47] [10000,10001,192,2880]] (pR r03 ((r05.length:Nat):Int) v1.now v1.times v1.values r05 g_s.nodes g_s.ties g_s.horizon) l10 ?_ ?_
    ·simp(config:=cS)only[go_sem,eZf h2,eZf h4,g7]
    ·intro nb11 sb11 bb11 b11 gb11
     obtain⟨v47_1,h10001_1⟩:=sb11
     unfold hY at b11
     try dsimp only at b11
     obtain⟨h12,b11⟩|⟨h12,b11⟩:=aZ b11
     ·obtain⟨x06,g13,b11⟩:=ae b11
      obtain⟨h14,h15,h16⟩:=eA g13
      obtain⟨r07,g17,b11⟩:=ae b11
      simp(config:=cS)only[go_sem,eZf h2,eZf h4,g7,eqT h12,h14,h15,h16]
      have g17:=ctr g17
      refine ag g17 ?_
      obtain⟨r08,g18,b11⟩:=ae b11
      simp(config:=cS)only[go_sem,eZf h2,eZf h4,g7,eqT h12,h14,h15,h16]
      refine ag (sD @hrec g18) ?_
      obtain⟨h19,b11⟩|⟨h19,b11⟩:=aZ b11
      ·cases b11
       simp(config:=cS)only[go_sem,eZf h2,eZf h4,g7,eqT h12,h14,h15,h16,eZt h19]
       refine ig gb11 ?_
       simp(config:=cS)only[go_sem,eZf h2,eZf h4,g7,eqT h12,h14,h15,h16,eZt h19]
      ·cases b11
       obtain rfl:=(aI gb11).symm
       try dsimp only at h8
       cases h8
       simp(config:=cS)only[go_sem,eZf h2,eZf h4,g7,eqT h12,h14,h15,h16,eZf h19]
     ·cases b11
      obtain rfl:=(aI gb11).symm
      try dsimp only at h8
      cases h8
      simp(config:=cS)only[go_sem,eZf h2,eZf h4,g7,eqF h12]
theorem vM (fu:Nat):∀ {g_s:GShow} {g_known:List (ByteArray × Bool)} {v1:GState} {res:Bool × (List (ByteArray × Bool))},ji fu g_s g_known v1=some res→ak prog 97 [.ptr 10000 0 0 0,.agg (GState.encS v1)] [(10000,0,.var [.sl (ab GNode.encS g_s.nodes),.sl (ab GTie.enc g_s.ties),.lit (.int .i64 g_s.horizon),.mp 10001 0]),(10001,0,.map (eM g_known))] (.lit (.bool res.1)) [(10000,0,.var [.sl (ab GNode.encS g_s.nodes),.sl (ab GTie.enc g_s.ties),.lit (.int .i64 g_s.horizon),.mp 10001 0]),(10001,0,.map (eM res.2))]:=by
 induction fu with
 | zero=>intro _ _ _ _ h;cases h
 | succ fu ih=>intro _ _ _ _ h;exact xR (@ih) h
theorem ux {g_s:GShow}{g_known:List (ByteArray × Bool)}{v1:GState}{res:Bool × (List (ByteArray × Bool))}(h:m_impl_game_wins g_s g_known v1=some res):ak prog 97 [.ptr 10000 0 0 0,.agg (GState.encS v1)] [(10000,0,.var [.sl (ab GNode.encS g_s.nodes),.sl (ab GTie.enc g_s.ties),.lit (.int .i64 g_s.horizon),.mp 10001 0]),(10001,0,.map (eM g_known))] (.lit (.bool res.1)) [(10000,0,.var [.sl (ab GNode.encS g_s.nodes),.sl (ab GTie.enc g_s.ties),.lit (.int .i64 g_s.horizon),.mp 10001 0]),(10001,0,.map (eM res.2))]:=vM 40 h
theorem xS {g_s:GShow}{g_known:List (ByteArray × Bool)}{v1:GState}{nodes:List Int}{res:Bool × (List (ByteArray × Bool))}(h:oF g_s g_known v1 nodes=some res):ak prog 242 [.ptr 10000 0 0 0,.agg (GState.encS v1),.sl (ab eI nodes)] [(10000,0,.var [.sl (ab GNode.encS g_s.nodes),.sl (ab GTie.enc g_s.ties),.lit (.int .i64 g_s.horizon),.mp 10001 0]),(10001,0,.map (eM g_known))] (.lit (.bool res.1)) [(10000,0,.var [.sl (ab GNode.encS g_s.nodes),.sl (ab GTie.enc g_s.ties),.lit (.int .i64 g_s.horizon),.mp 10001 0]),(10001,0,.map (eM res.2))]:=rL (@ux) h
theorem zF {g_s:GShow}{g_known:List (ByteArray × Bool)}{v1:GState}{res:(List Int) × Bool × (List (ByteArray × Bool))}(h:pq g_s g_known v1=some res):ak prog 163 [.ptr 10000 0 0 0,.agg (GState.encS v1)] [(10000,0,.var [.sl (ab GNode.encS g_s.nodes),.sl (ab GTie.enc g_s.ties),.lit (.int .i64 g_s.horizon),.mp 10001 0]),(10001,0,.map (eM g_known))] (.tup [.sl (ab eI res.1),.lit (.bool res.2.1)]) [(10000,0,.var [.sl (ab GNode.encS g_s.nodes),.sl (ab GTie.enc g_s.ties),.lit (.int .i64 g_s.horizon),.mp 10001 0]),(10001,0,.map (eM res.2.2))]:=sD (@ux) h
instance k244 {nodes:List Int} {g_s:GShow} {g_known:List (ByteArray × Bool)} {v2:GState}:Ctr (eL nodes g_s g_known v2) (fun (res:Bool × (List (ByteArray × Bool)))=>ak prog 244 [.sl (ab eI nodes),.ptr 10000 0 0 0,.ptr 10003 0 0 0] [(10000,0,.var [.ptr 10001 0 0 0]),(10001,0,.var [.sl (ab GNode.encS g_s.nodes),.sl (ab GTie.enc g_s.ties),.lit (.int .i64 g_s.horizon),.mp 10002 0]),(10002,0,.map (eM g_known)),(10003,0,.var [.lit (.int .i64 v2.now),.sl (ab eI v2.times),.sl (ab eI v2.values)])] (.lit (.bool res.1)) [(10000,0,.var [.ptr 10001 0 0 0]),(10001,0,.var [.sl (ab GNode.encS g_s.nodes),.sl (ab GTie.enc g_s.ties),.lit (.int .i64 g_s.horizon),.mp 10002 0]),(10002,0,.map (eM res.2)),(10003,0,.var [.lit (.int .i64 v2.now),.sl (ab eI v2.times),.sl (ab eI v2.values)])]):=⟨by
 intro res h0
 refine co (hi:=hi00) func244 rfl rfl ?_
 unfold eL at h0
 obtain⟨r01,g0,h0⟩:=ae h0
 simp(config:=cS)only[go_sem, *]
 refine ag (xS g0) ?_
 exact run⟩
def dt (h:Bool)(j:Int)(i:List (List Int))(a:List GNode)(b:List GTie)(c d:Int)(e f:List Int):(Int × (List (ByteArray × Bool)))→St
 | (k,g)=>⟨[(0,.ref 10000 0 0 i.length),(1,.fn 244 [.ptr 10001 0 0 0,.ptr 10004 0 0 0]),(7,.lit (.int .i64 j)),(8,.lit (.int .i64 k))],[(10000,0,.row h (ab (eLS eI) i)),(10001,0,.var [.ptr 10002 0 0 0]),(10002,0,.var [.sl (ab GNode.encS a),.sl (ab GTie.enc b),.lit (.int .i64 c),.mp 10003 0]),(10003,0,.map (eM g)),(10004,0,.var [.lit (.int .i64 d),.sl (ab eI e),.sl (ab eI f)])],2⟩
attribute[go_sem] dt
theorem lR {v0:List (List Int)}{g_s:GShow}{g_known:List (ByteArray × Bool)}{cap1:GState}{zb0:Bool}{res:Int × (List (List Int)) × (List (ByteArray × Bool))}(h0:bm v0 g_s g_known cap1=some res):ak prog 289 [.ref 10000 0 0 v0.length,.fn 244 [.ptr 10001 0 0 0,.ptr 10004 0 0 0]] [(10000,0,.row zb0 (ab (eLS eI) v0)),(10001,0,.var [.ptr 10002 0 0 0]),(10002,0,.var [.sl (ab GNode.encS g_s.nodes),.sl (ab GTie.enc g_s.ties),.lit (.int .i64 g_s.horizon),.mp 10003 0]),(10003,0,.map (eM g_known)),(10004,0,.var [.lit (.int .i64 cap1.now),.sl (ab eI cap1.times),.sl (ab eI cap1.values)])] (.lit (.int .i64 res.1)) [(10000,0,.row zb0 (ab (eLS eI) res.2.1)),(10001,0,.var [.ptr 10002 0 0 0]),(10002,0,.var [.sl (ab GNode.encS g_s.nodes),.sl (ab GTie.enc g_s.ties),.lit (.int .i64 g_s.horizon),.mp 10003 0]),(10003,0,.map (eM res.2.2)),(10004,0,.var [.lit (.int .i64 cap1.now),.sl (ab eI cap1.times),.sl (ab eI cap1.values)])]:=by
 refine co (hi:=hi00) func289 rfl rfl ?_
 unfold bm at h0
 obtain⟨q03,l0,h0⟩:=ae h0
 simp(config:=cS)only[go_sem, *]
 refine ah (m1:=.mk) (m2:=.mk) [.nf [0,1,7,8] [10000,10001,10002,10003,10004]] (dt zb0 ((v0.length:Nat):Int) v0 g_s.nodes g_s.ties g_s.horizon cap1.now cap1.times cap1.values) l0 ?_ ?_
 ·simp(config:=cS)only[go_sem, *]
 ·have k0:=h0
  clear h0 l0
  intro _ s0 _ h0 gb0
  obtain⟨v8_1,h10003_1⟩:=s0
  unfold bd at h0
  try dsimp only at h0
  exact run
def dq (i:Bool)(h:Nat)(a:List GNode)(b:List GTie)(c d:Int)(e f:List Int):(Int × Int × (List (List Int)) × (List (ByteArray × Bool)))→St
 | (j,k,l,g)=>⟨[(0,.ref 10000 0 0 h),(1,.fn 244 [.ptr 10001 0 0 0,.ptr 10004 0 0 0]),(5,.lit (.int .i64 j)),(6,.lit (.int .i64 k))],[(10000,0,.row i (ab (eLS eI) l)),(10001,0,.var [.ptr 10002 0 0 0]),(10002,0,.var [.sl (ab GNode.encS a),.sl (ab GTie.enc b),.lit (.int .i64 c),.mp 10003 0]),(10003,0,.map (eM g)),(10004,0,.var [.lit (.int .i64 d),.sl (ab eI e),.sl (ab eI f)])],2⟩
attribute[go_sem] dq
def cW:Hint where
 acts:=fun i=>match i with|0=>[.frIn 10000]|_=>[]
 draws:=fun
  | _=>⟨.nil,[],[]⟩
@[go_sem] theorem TN:cW.acts 0=[.frIn 10000]:=rfl
@[go_sem] theorem TO:cW.acts 1=[]:=rfl
@[go_sem] theorem TP:cW.acts 2=[]:=rfl
@[go_sem] theorem TQ:cW.acts 3=[]:=rfl
@[go_sem] theorem TR:cW.acts 4=[]:=rfl
@[go_sem] theorem TS:cW.acts 5=[]:=rfl
@[go_sem] theorem TT:cW.acts 7=[]:=rfl
@[go_sem] theorem TU:cW.acts 8=[]:=rfl
@[go_sem] theorem TV:cW.acts 9=[]:=rfl
@[go_sem] theorem Rs:cW.acts 10=[]:=rfl
@[go_sem] theorem TW:cW.acts 6=[]:=rfl
@[go_sem] theorem Rt:cW.acts 11=[]:=rfl
@[go_sem] theorem Ru:cW.acts 12=[]:=rfl
theorem JQ (i:Nat):cW.views i=none:=rfl
attribute[go_sem] JQ ntmps243 results243
theorem lJ {v0:List (List Int)}{g_s:GShow}{g_known:List (ByteArray × Bool)}{cap1:GState}{zb0:Bool}{res:(List (List Int)) × (List (ByteArray × Bool))}(h0:bi v0 g_s g_known cap1=some res):ak prog 243 [.ref 10000 0 0 v0.length,.fn 244 [.ptr 10001 0 0 0,.ptr 10004 0 0 0]] [(10000,0,.row zb0 (ab (eLO eI) v0)),(10001,0,.var [.ptr 10002 0 0 0]),(10002,0,.var [.sl (ab GNode.encS g_s.nodes),.sl (ab GTie.enc g_s.ties),.lit (.int .i64 g_s.horizon),.mp 10003 0]),(10003,0,.map (eM g_known)),(10004,0,.var [.lit (.int .i64 cap1.now),.sl (ab eI cap1.times),.sl (ab eI cap1.values)])] (.ref 10000 0 0 res.1.length) [(10000,0,.row false (ab (eLS eI) res.1)),(10001,0,.var [.ptr 10002 0 0 0]),(10002,0,.var [.sl (ab GNode.encS g_s.nodes),.sl (ab GTie.enc g_s.ties),.lit (.int .i64 g_s.horizon),.mp 10003 0]),(10003,0,.map (eM res.2)),(10004,0,.var [.lit (.int .i64 cap1.now),.sl (ab eI cap1.times),.sl (ab eI cap1.values)])]:=by
 refine aw (ra:=[.home 4,.trim 4]) (md:=mdT) hT (hi:=cW) func243 rfl rfl (by decide +kernel) (by simp) ?_
 unfold bi at h0
 obtain⟨r01,g0,h0⟩:=ae h0
 simp(config:=cS)only[go_sem, *]
 refine ag (lR g0) ?_
 obtain⟨_,h0⟩|⟨_,h0⟩:=itP h0
 ·exact run
 ·obtain⟨q05,l0,h0⟩:=ae h0
  simp(config:=cS)only[go_sem, *]
  refine ah (m1:=.mk) (m2:=.mk) [.nf [0,1,5,6] [10000,10001,10002,10003,10004]] (dq zb0 v0.length g_s.nodes g_s.ties g_s.horizon cap1.now cap1.times cap1.values) l0 ?_ ?_
  ·simp(config:=cS)only[go_sem, *]
  ·have k0:=h0
   clear h0 l0
   intro _ s0 _ h0 gb0
   obtain⟨v5_1,v6_1,v0_1,h10003_1⟩:=s0
   unfold aY at h0
   try dsimp only at h0
   exact run
@[go_sem] def hi165_1:DT:=.r2 0 5 (.i2 6 (.i2 5 (.i2 7 (.i2 8 .nil))))
def HA:Hint where
 acts:=fun _=>[]
 draws:=fun
  | 1=>⟨hi165_1,[[],[0],[0,1],[0,1,2],[],.range 5,[],.range 7,.range 8],.range 9⟩
  | _=>⟨.nil,[],[]⟩
theorem TX (i:Nat):HA.acts i=[]:=rfl
theorem TY (i:Nat):HA.views i=none:=rfl
attribute[go_sem] TX TY ntmps165 results165
@[go_sem] theorem XG:(HA.draws 1).order=hi165_1:=rfl
instance k165 {g_s:GShow} {g_known:List (ByteArray × Bool)} {v1:GState}:Ctr (kA g_s g_known v1) (fun (res:(List (List Int)) × (List (ByteArray × Bool)))=>ak prog 165 [.ptr 10000 0 0 0,.agg (GState.encS v1)] [(10000,0,.var [.sl (ab GNode.encS g_s.nodes),.sl (ab GTie.enc g_s.ties),.lit (.int .i64 g_s.horizon),.mp 10001 0]),(10001,0,.map (eM g_known))] (.ref 20000 1 0 res.1.length) [(10000,0,.var [.sl (ab GNode.encS g_s.nodes),.sl (ab GTie.enc g_s.ties),.lit (.int .i64 g_s.horizon),.mp 10001 0]),(10001,0,.map (eM res.2)),(20000,1,.row false (ab (eLS eI) res.1))]):=⟨by
 intro res h0
 refine aw (ra:=[.home 4,.trim 4]) (md:=mdT) hT (hi:=HA) func165 rfl rfl (by decide +kernel) (by simp) ?_
 unfold kA at h0
 obtain⟨r01,g0,h0⟩:=ae h0
 simp(config:=cS)only[go_sem, *]
 have g0:=ctr g0
 refine ag g0 ?_
 obtain⟨r02,g0,h0⟩:=ae h0
 simp(config:=cS)only[go_sem, *]
 refine ag (lJ g0) ?_
 exact run⟩
instance k164 {list:List (List Int)} {lazy:Bool}:Ctr (oG list lazy) (fun (res:(List Int) × Bool)=>ak prog 164 [.sl (ab (eLS eI) list),.lit (.bool lazy)] [] (.tup [.sl (ab eI res.1),.lit (.bool res.2)]) []):=⟨by
 intro res h0
 refine aw (ra:=[.nilSl 4]) (md:=mdT) hT (hi:=hi00) func164 rfl rfl (by decide +kernel) (by simp) ?_
 unfold oG at h0
 obtain⟨_,h0⟩|⟨_,h0⟩:=itP h0
 ·exact run
 ·obtain⟨_,h0⟩|⟨_,h0⟩:=itB h0
  ·exact run
  ·obtain⟨x02,g1,h0⟩:=ae h0
   have:=cU (k:=0) g1
   exact run⟩
instance k162 {g_s:GShow} {g_known:List (ByteArray × Bool)} {v1:GState} {d:GDesk}:Ctr (iW g_s g_known v1 d) (fun (res:(List Int) × Bool × (List (ByteArray × Bool)))=>ak prog 162 [.ptr 10000 0 0 0,.agg (GState.encS v1),.loc [.sl (ab GNode.encS d.show_.nodes),.sl (ab GTie.enc d.show_.ties),.lit (.int .i64 d.show_.horizon),.lit (.int .i64 d.state.now),.sl (ab eI d.state.times),.sl (ab eI d.state.values),.lit (.bool d.lazy),.sl (ab GEntry.encS d.log)]] [(10000,0,.var [.sl (ab GNode.encS g_s.nodes),.sl (ab GTie.enc g_s.ties),.lit (.int .i64 g_s.horizon),.mp 10001 0]),(10001,0,.map (eM g_known))] (.tup [.sl (ab eI res.1),.lit (.bool res.2.1)]) [(10000,0,.var [.sl (ab GNode.encS g_s.nodes),.sl (ab GTie.enc g_s.ties),.lit (.int .i64 g_s.horizon),.mp 10001 0]),(10001,0,.map (eM res.2.2))]):=⟨by
 intro res h0
 refine aw (ra:=[.home 5]) (md:=mdT) hT (hi:=hi00) func162 rfl rfl (by decide +kernel) (by simp) ?_
 unfold iW at h0
 obtain⟨_,h0⟩|⟨_,h0⟩:=itB h0
 ·exact run
 ·obtain⟨r03,g0,h0⟩:=ae h0
  simp(config:=cS)only[go_sem, *]
  refine ag (zF g0) ?_
  exact run⟩
def qP (a d:List Int)(e:Int):(Int × (List Int))→St
 | (c,b)=>⟨[(1,.sl (ab eI a)),(5,.ref 383 1 0 b.length),(8,.sl (ab eI d)),(9,.lit (.int .i64 e)),(10,.lit (.int .i64 c))],[(383,1,.row true (ab eI b))],2⟩
attribute[go_sem] qP
instance k241 {props:List Int} {values:List Int}:Ctr (lv props values) (fun (res:List Int)=>ak prog 241 [.sl (ab eI props),.sl (ab eI values)] [] (.ref 20000 1 0 res.length) [(20000,1,.row true (ab eI res))]):=⟨by
 intro res h0
 refine aw (ra:=[.home 4]) (md:=mdT) hT (hi:=hi00) func241 rfl rfl (by decide +kernel) (by simp) ?_
 unfold lv at h0
 obtain⟨q03,l0,h0⟩:=ae h0
 simp(config:=cS)only[go_sem, *]
 refine ah (m1:=.mk) (m2:=.mk) [.home 5,.nf [1,5,8,9,10] [383]] (qP values props ((props.length:Nat):Int)) l0 ?_ ?_
 ·simp(config:=cS)only[go_sem, *]
 ·have k0:=h0
  clear h0 l0
  intro _ s0 _ h0 gb0
  obtain⟨v10_1,out_1⟩:=s0
  unfold iX at h0
  try dsimp only at h0
  exact run⟩
def cM (s h l:List Int)(t m n:Int)(o:Bool)(p:Int)(q r:List Int)(i:Int)(a:List GNode)(b:List GTie)(c d:List Int)(e:List GEntry)(f g j:List Int):(Int × (List Int))→St
 | (u,k)=>⟨[(1,.sl (ab eI s)),(2,.sl (ab eI h)),(10,.ptr 640 1 0 0),(13,.ptr 832 1 0 0),(15,.ptr 960 1 0 0),(17,.sl (ab eI l)),(19,.ptr 1216 1 0 0),(20,.ref 5506 1 0 j.length),(21,.ref 1407 1 0 k.length),(89,.ref 5506 1 0 j.length),(90,.lit (.int .i64 t)),(91,.lit (.int .i64 u))],[(640,1,.var [.lit (.slice none 0 0),.lit (.slice none 0 0),.lit (.int .i64 0),.lit (.int .i64 0),.lit (.slice none 0 0),.lit (.slice none 0 0),.lit (.bool false),.lit (.slice none 0 0)]),(832,1,.var [.ref 1600 1 0 a.length,.ref 1601 1 0 b.length,.lit (.int .i64 m),.lit (.int .i64 n),.ref 1602 1 0 c.length,.ref 1603 1 0 d.length,.lit (.bool o),.ref 1604 1 0 e.length]),(1600,1,.row true (ab GNode.encO a)),(1601,1,.row true (ab GTie.enc b)),(1602,1,.row true (ab eI c)),(1603,1,.row true (ab eI d)),(1604,1,.row true (ab GEntry.encO e)),(960,1,.var [.lit (.int .i64 p),.sl (ab eI q),.sl (ab eI r)]),(1216,1,.var [.lit (.int .i64 i),.ref 5504 1 0 f.length,.ref 5505 1 0 g.length]),(5504,1,.row true (ab eI f)),(5505,1,.row true (ab eI g)),(5506,1,.row true (ab eI j)),(1407,1,.row true (ab eI k))],2⟩
attribute[go_sem] cM
@[go_sem] def hi161_s162_22:DT:=.i1 0 (.i2 1 (.i0 2 [0] (.r2 3 3 .nil)))
@[go_sem] def hi161_s162_21:DT:=.i1 0 (.i1 1 (.i1 2 (.i1 3 (.i2 4 (.i2 6 (.i2 8 (.i2 9 (.i0 5 [0,1,2,3] (.i0 7 [0,1,2,3] (.i0 10 [0,1,2,3] (.i2 11 (.i0 12 [0,1] (.r2 13 3 .nil)))))))))))))
@[go_sem] def hi161_s162_10:DT:=.i2 0 (.i2 1 (.i1 3 (.i0 2 [3] (.r2 4 6 .nil))))
@[go_sem] def hi161_s162_4:DT:=.i1 0 (.i1 1 (.i1 2 (.i1 3 (.fork (.i0 4 [0,1,2,3] (.i0 5 [0,1,2,3] (.i0 6 [2,3] (.i2 7 .nil)))) (.i0 5 [0,1,2,3] (.i0 4 [0,1,2,3] (.i0 6 [2,3] (.i2 7 .nil))))))))
def mW:Hint where
 acts:=fun _=>[]
 draws:=fun
  | 4=>⟨hi161_s162_4,[[],[0],[],[2],[],[],[0,1,4,5],.range 7],[0,1,5,6,2,3,4,7]⟩
  | 10=>⟨hi161_s162_10,[[],[],[1],[],[0,1,2,3],.range 5,.range 6,.range 6,.range 7,.range 9],[0,1,2,3,4,5,6,8,7,9]⟩
  | 21=>⟨hi161_s162_21,[[],[0],[],[2],[],[4],[],[4,5,6],[],[],[4,5,6,7,8,9],[2,3,4,5,6,7,8,9,10],[2,3,4,5,6,7,8,9,10,11],.range 13,.range 14,.range 15],.range 16⟩
  | 22=>⟨hi161_s162_22,[[],[],[1],[0,1,2],[0,1,2,3],.range 5],.range 6⟩
  | _=>⟨.nil,[],[]⟩
theorem JR (i:Nat):mW.acts i=[]:=rfl
theorem JS (i:Nat):mW.views i=none:=rfl
attribute[go_sem] JR JS ntmps161 results161
@[go_sem] theorem TZ:(mW.draws 4).order=hi161_s162_4:=rfl
@[go_sem] theorem Rv:(mW.draws 10).order=hi161_s162_10:=rfl
@[go_sem] theorem Rw:(mW.draws 21).order=hi161_s162_21:=rfl
@[go_sem] theorem Ry:(mW.draws 22).order=hi161_s162_22:=rfl
instance k161 {d:GDesk} {ties:List Int} {values:List Int} {refused:Int} {d':GDesk}:Ctr (bJ d ties values refused d') (fun (res:GDesk × (List Int) × Int)=>ak prog 161 [.agg (GDesk.encS d),.sl (ab eI ties),.sl (ab eI values),.lit (.int .i64 refused),.fn 162 [.loc [.sl (ab GNode.encS d'.show_.nodes),.sl (ab GTie.enc d'.show_.ties),.lit (.int .i64 d'.show_.horizon),.lit (.int .i64 d'.state.now),.sl (ab eI d'.state.times),.sl (ab eI d'.state.values),.lit (.bool d'.lazy),.sl (ab GEntry.encS d'.log)]]] [] (.tup [.agg [.ref 20000 1 0 res.1.show_.nodes.length,.ref 20001 1 0 res.1.show_.ties.length,.lit (.int .i64 res.1.show_.horizon),.lit (.int .i64 res.1.state.now),.ref 20002 1 0 res.1.state.times.length,.ref 20003 1 0 res.1.state.values.length,.lit (.bool res.1.lazy),.ref 20004 1 0 res.1.log.length],.ref 20005 1 0 res.2.1.length,.lit (.int .i64 res.2.2)]) [(20000,1,.row true (ab GNode.encO res.1.show_.nodes)),(20001,1,.row true (ab GTie.enc res.1.show_.ties)),(20002,1,.row true (ab eI res.1.state.times)),(20003,1,.row true (ab eI res.1.state.values)),(20004,1,.row true (ab GEntry.encO res.1.log)),(20005,1,.row true (ab eI res.2.1))]):=⟨by
 intro res h0
 refine aw (ra:=[.homeCell 640 0,.homeCell 640 1,.homeCell 640 4,.homeCell 640 5,.homeCell 640 7,.home 11]) (md:=mdT) hT (hi:=mW) func161 rfl rfl (by decide +kernel) (by simp) ?_
 unfold bJ at h0
 obtain⟨r01,g0,h0⟩:=ae h0
 simp(config:=cS)only[go_sem, *]
 have g0:=ctr g0
 refine ag g0 ?_
 obtain⟨r02,g0,h0⟩:=ae h0
 simp(config:=cS)only[go_sem, *]
 have g0:=ctr g0
 refine ag g0 ?_
 obtain⟨_,h0⟩|⟨_,h0⟩:=itB h0
 ·obtain⟨_,h0⟩|⟨_,h0⟩:=itP h0
  ·obtain⟨r03,g0,h0⟩:=ae h0
   simp(config:=cS)only[go_sem, *]
   refine ag (dn (by exact fun _ _ hr=>by have q:=ctr hr;exact q) (by refine⟨fun _=>?_,fun _=>?_⟩ <;> simp only[go_sem]) (fun _=>rfl) rfl g0) ?_
   obtain⟨_,h0⟩|⟨_,h0⟩:=itB h0
   ·exact run
   ·try simp(config:=cS)only[go_sem, *]
    refine bq ?_ ?_
    ·obtain⟨r04,g0,h0⟩:=ae h0
     simp(config:=cS)only[go_sem, *]
     have g0:=ctr g0
     refine ag g0 ?_
     obtain⟨_,h0⟩|⟨_,h0⟩:=itB h0
     ·exact run
     ·obtain⟨r05,g0,h0⟩:=ae h0
      simp(config:=cS)only[go_sem, *]
      have g0:=ctr g0
      refine ag g0 ?_
      obtain⟨_,h0⟩|⟨_,h0⟩:=itB h0
      ·exact run
      ·obtain⟨_,h0⟩|⟨_,h0⟩:=itP h0
       ·exact run
       ·obtain⟨r06,g0,h0⟩:=ae h0
        simp(config:=cS)only[go_sem, *]
        have g0:=ctr g0
        refine ag g0 ?_
        obtain⟨r07,g0,h0⟩:=ae h0
        simp(config:=cS)only[go_sem, *]
        have g0:=ctr g0
        refine ag g0 ?_
        obtain⟨_,h0⟩|⟨_,h0⟩:=itB h0
        ·obtain⟨r08,g0,h0⟩:=ae h0
         simp(config:=cS)only[go_sem, *]
         have g0:=ctr g0
         refine ag g0 ?_
         obtain⟨r09,g0,h0⟩:=ae h0
         simp(config:=cS)only[go_sem, *]
         have g0:=ctr g0
         refine ag g0 ?_
         obtain⟨r10,g0,h0⟩:=ae h0
         simp(config:=cS)only[go_sem, *]
         have g0:=ctr g0
         refine ag g0 ?_
         obtain⟨_,h0⟩|⟨_,h0⟩:=itB h0
         ·obtain⟨r11,g0,h0⟩:=ae h0
          simp(config:=cS)only[go_sem, *]
          have g0:=ctr g0
          refine ag g0 ?_
          obtain⟨q19,l0,h0⟩:=ae h0
          simp(config:=cS)only[go_sem, *]
          refine ah (m1:=.mk) (m2:=.mk) [.home 21,.nf [1,2,10,13,15,17,19,20,21,89,90,91] [640,832,1600,1601,1602,1603,1604,960,1216,5504,5505,5506,1407]] (cM ties values r10.1 ((r11.2.length:Nat):Int) r01.show_.horizon r01.state.now r01.lazy d.state.now d.state.times d.state.values r11.1.now r01.show_.nodes r01.show_.ties r01.state.times r01.state.values r01.log r11.1.times r11.1.values r11.2) l0 ?_ ?_
          ·simp(config:=cS)only[go_sem, *]
          ·have k0:=h0
           clear h0 l0
           intro _ s0 _ h0 gb0
           obtain⟨v91_1,seen_1⟩:=s0
           unfold bh at h0
           try dsimp only at h0
           exact run
         ·exact run
        ·exact run
    ·obtain⟨r20,g0,h0⟩:=ae h0
     simp(config:=cS)only[go_sem, *]
     have g0:=ctr g0
     refine ag g0 ?_
     obtain⟨_,h0⟩|⟨_,h0⟩:=itB h0
     ·exact run
     ·obtain⟨r21,g0,h0⟩:=ae h0
      simp(config:=cS)only[go_sem, *]
      have g0:=ctr g0
      refine ag g0 ?_
      obtain⟨_,h0⟩|⟨_,h0⟩:=itB h0
      ·exact run
      ·obtain⟨_,h0⟩|⟨_,h0⟩:=itP h0
       ·exact run
       ·obtain⟨r22,g0,h0⟩:=ae h0
        simp(config:=cS)only[go_sem, *]
        have g0:=ctr g0
        refine ag g0 ?_
        obtain⟨r23,g0,h0⟩:=ae h0
        simp(config:=cS)only[go_sem, *]
        have g0:=ctr g0
        refine ag g0 ?_
        obtain⟨_,h0⟩|⟨_,h0⟩:=itB h0
        ·obtain⟨r24,g0,h0⟩:=ae h0
         simp(config:=cS)only[go_sem, *]
         have g0:=ctr g0
         refine ag g0 ?_
         obtain⟨r25,g0,h0⟩:=ae h0
         simp(config:=cS)only[go_sem, *]
         have g0:=ctr g0
         refine ag g0 ?_
         obtain⟨r26,g0,h0⟩:=ae h0
         simp(config:=cS)only[go_sem, *]
         have g0:=ctr g0
         refine ag g0 ?_
         obtain⟨_,h0⟩|⟨_,h0⟩:=itB h0
         ·obtain⟨r27,g0,h0⟩:=ae h0
          simp(config:=cS)only[go_sem, *]
          have g0:=ctr g0
          refine ag g0 ?_
          obtain⟨q35,l0,h0⟩:=ae h0
          simp(config:=cS)only[go_sem, *]
          refine ah (m1:=.mk) (m2:=.mk) [.home 21,.nf [1,2,10,13,15,17,19,20,21,89,90,91] [640,832,1600,1601,1602,1603,1604,960,1216,5504,5505,5506,1407]] (cM ties values r26.1 ((r27.2.length:Nat):Int) r01.show_.horizon r01.state.now r01.lazy d.state.now d.state.times d.state.values r27.1.now r01.show_.nodes r01.show_.ties r01.state.times r01.state.values r01.log r27.1.times r27.1.values r27.2) l0 ?_ ?_
          ·simp(config:=cS)only[go_sem, *]
          ·have k0:=h0
           clear h0 l0
           intro _ s0 _ h0 gb0
           obtain⟨v91_2,seen_2⟩:=s0
           unfold bh at h0
           try dsimp only at h0
           exact run
         ·exact run
        ·exact run
  ·exact run
 ·exact run⟩
instance k86 {d:GDesk} {ties:List Int} {values:List Int}:Ctr (lw d ties values) (fun (res:GDesk × (List Int) × Int)=>ak prog 86 [.agg (GDesk.encS d),.sl (ab eI ties),.sl (ab eI values)] [] (.tup [.agg [.ref 20000 1 0 res.1.show_.nodes.length,.ref 20001 1 0 res.1.show_.ties.length,.lit (.int .i64 res.1.show_.horizon),.lit (.int .i64 res.1.state.now),.ref 20002 1 0 res.1.state.times.length,.ref 20003 1 0 res.1.state.values.length,.lit (.bool res.1.lazy),.ref 20004 1 0 res.1.log.length],.ref 20005 1 0 res.2.1.length,.lit (.int .i64 res.2.2)]) [(20000,1,.row true (ab GNode.encO res.1.show_.nodes)),(20001,1,.row true (ab GTie.enc res.1.show_.ties)),(20002,1,.row true (ab eI res.1.state.times)),(20003,1,.row true (ab eI res.1.state.values)),(20004,1,.row true (ab GEntry.encO res.1.log)),(20005,1,.row true (ab eI res.2.1))]):=⟨by
 intro res h0
 refine aw (ra:=[.homeCell 384 0,.homeCell 384 1,.homeCell 384 4,.homeCell 384 5,.homeCell 384 7,.home 7]) (md:=mdT) hT (hi:=hi00) func86 rfl rfl (by decide +kernel) (by simp) ?_
 unfold lw at h0
 exact run⟩
def rM (i j:List Int):(Int × Int × Bool × (List GNode) × (List GTie) × (List Int) × (List Int) × (List GEntry))→St
 | (f,g,h,a,b,c,d,e)=>⟨[(3,.ptr 192 1 0 0),(4,.ptr 256 1 0 0),(6,.ptr 384 1 0 0)],[(192,1,.var [.sl (ab eI i),.sl (ab eI j)]),(256,1,.var [.lit (.slice none 0 0),.lit (.slice none 0 0),.lit (.int .i64 0),.lit (.int .i64 0),.lit (.slice none 0 0),.lit (.slice none 0 0),.lit (.bool false),.lit (.slice none 0 0)]),(384,1,.var [.ref 704 1 0 a.length,.ref 705 1 0 b.length,.lit (.int .i64 f),.lit (.int .i64 g),.ref 706 1 0 c.length,.ref 707 1 0 d.length,.lit (.bool h),.ref 708 1 0 e.length]),(704,1,.row true (ab GNode.encO a)),(705,1,.row true (ab GTie.enc b)),(706,1,.row true (ab eI c)),(707,1,.row true (ab eI d)),(708,1,.row true (ab GEntry.encO e))],2⟩
attribute[go_sem] rM
@[go_sem] def hi27_4:DT:=.i1 0 (.i1 1 (.i1 2 (.i1 3 (.i1 4 (.i1 5 (.i1 7 (.i1 8 (.fork (.i0 6 [0,7,8] (.fork (.i2 9 (.i2 10 (.i2 11 (.i2 12 (.i2 13 (.i0 14 [0,1,2,3,4,5,7,8] (.i2 15 (.i2 16 (.i2 17 .nil))))))))) (.i0 14 [0,1,2,3,4,5,7,8] (.i2 9 (.i2 10 (.i2 11 (.i2 12 (.i2 13 (.i2 15 (.i2 16 (.i2 17 .nil))))))))))) (.i0 14 [0,1,2,3,4,5,7,8] (.i0 6 [0,7,8] (.i2 9 (.i2 10 (.i2 11 (.i2 12 (.i2 13 (.i2 15 (.i2 16 (.i2 17 .nil))))))))))))))))))
def hi27:Hint where
 acts:=fun _=>[]
 draws:=fun
  | 4=>⟨hi27_4,[[],[],[1],[],[3],[],[1,2,3,4,5],[],[7],.range 9,.range 10,.range 11,.range 11,.range 11,[],[0,1,2,3,4,5,6,7,8,9,10,11,14],[0,1,2,3,4,5,6,7,8,9,10,11,12,14,15],.range 17],[0,1,2,3,4,5,6,7,8,9,10,11,14,16,12,13,15,17]⟩
  | _=>⟨.nil,[],[]⟩
theorem Vx (i:Nat):hi27.acts i=[]:=rfl
theorem Vy (i:Nat):hi27.views i=none:=rfl
attribute[go_sem] Vx Vy ntmps27 results27
@[go_sem] theorem Yq:(hi27.draws 4).order=hi27_4:=rfl
instance k27 {d:GDesk} {v1:GChoice}:Ctr (mA d v1) (fun (res:GDesk × Int)=>ak prog 27 [.agg (GDesk.encS d),.agg [.sl (ab eI v1.lengths),.sl (ab eI v1.values)]] [] (.tup [.agg [.ref 20000 1 0 res.1.show_.nodes.length,.ref 20001 1 0 res.1.show_.ties.length,.lit (.int .i64 res.1.show_.horizon),.lit (.int .i64 res.1.state.now),.ref 20002 1 0 res.1.state.times.length,.ref 20003 1 0 res.1.state.values.length,.lit (.bool res.1.lazy),.ref 20004 1 0 res.1.log.length],.lit (.int .i64 res.2)]) [(20000,1,.row true (ab GNode.encO res.1.show_.nodes)),(20001,1,.row true (ab GTie.enc res.1.show_.ties)),(20002,1,.row true (ab eI res.1.state.times)),(20003,1,.row true (ab eI res.1.state.values)),(20004,1,.row true (ab GEntry.encO res.1.log))]):=⟨by
 intro res h0
 refine aw (ra:=[.homeCell 256 0,.homeCell 256 1,.homeCell 256 4,.homeCell 256 5,.homeCell 256 7]) (md:=mdT) hT (hi:=hi27) func27 rfl rfl (by decide +kernel) (by simp) ?_
 unfold mA at h0
 obtain⟨r01,g0,h0⟩:=ae h0
 simp(config:=cS)only[go_sem, *]
 have g0:=ctr g0
 refine ag g0 ?_
 obtain⟨r02,g0,h0⟩:=ae h0
 simp(config:=cS)only[go_sem, *]
 have g0:=ctr g0
 refine ag g0 ?_
 obtain⟨_,h0⟩|⟨_,h0⟩:=itB h0
 ·obtain⟨r03,g0,h0⟩:=ae h0
  simp(config:=cS)only[go_sem, *]
  have g0:=ctr g0
  refine ag g0 ?_
  obtain⟨_,h0⟩|⟨_,h0⟩:=itB h0
  ·obtain⟨q09,l0,h0⟩:=ae h0
   simp(config:=cS)only[go_sem, *]
   refine ah (m1:=.mk) (m2:=.mk) [.nfp [3,4,6] [(192,192),(256,256),(384,384),(2112,704),(704,704),(2113,705),(705,705),(2114,706),(706,706),(2115,707),(707,707),(2116,708),(708,708)] []] (rM v1.lengths v1.values) l0 ?_ ?_
   ·simp(config:=cS)only[go_sem, *]
   ·have k0:=h0
    clear h0 l0
    intro _ s0 _ h0 gb0
    obtain⟨out_2_1,out_3_1,out_6_1,h704_1,h705_1,h706_1,h707_1,h708_1⟩:=s0
    unfold lX at h0
    try dsimp only at h0
    try simp(config:=cS)only[go_sem, *]
    refine bq ?_ ?_
    ·obtain⟨r04,g0,h0⟩:=ae h0
     simp(config:=cS)only[go_sem, *]
     have g0:=ctr g0
     refine ag g0 ?_
     try simp(config:=cS)only[go_sem, *]
     refine bq ?_ ?_
     ·exact run
     ·exact run
    ·exact run
  ·exact run
 ·exact run⟩
instance k99 {s:GShow} {v1:GState}:Ctr (nI s v1) (fun (res:Bool)=>ak prog 99 [.agg (GShow.encS s),.agg (GState.encS v1)] [] (.lit (.bool res)) []):=⟨by
 intro res h0
 refine co (hi:=hi00) func99 rfl rfl ?_
 unfold nI at h0
 exact run⟩
instance k36 {s:GShow} {v1:GChoice} {lazy:Bool}:Ctr (mB s v1 lazy) (fun (res:(List Int) × Bool)=>ak prog 36 [.agg (GShow.encS s),.agg [.sl (ab eI v1.lengths),.sl (ab eI v1.values)],.lit (.bool lazy)] [] (.tup [.ref 20000 1 0 res.1.length,.lit (.bool res.2)]) [(20000,1,.row true (ab eI res.1))]):=⟨by
 intro res h0
 refine aw (ra:=[.home 6]) (md:=mdT) hT (hi:=hi00) func36 rfl rfl (by decide +kernel) (by simp) ?_
 unfold mB at h0
 exact run⟩
instance k59 {s:GShow} {v1:GChoice}:Ctr (ja s v1) (fun (res:Bool)=>ak prog 59 [.agg (GShow.encS s),.agg [.sl (ab eI v1.lengths),.sl (ab eI v1.values)]] [] (.lit (.bool res)) []):=⟨by
 intro res h0
 refine co (hi:=hi00) func59 rfl rfl ?_
 unfold ja at h0
 exact run⟩
@[go_sem] def hi61_1:DT:=.r2 0 11 .nil
def hi61:Hint where
 acts:=fun _=>[]
 draws:=fun
  | 1=>⟨hi61_1,[[],[0],[],[0,1,2],[0,1,2,3],.range 5,[],[6],.range 8,.range 9,.range 10],.range 11⟩
  | _=>⟨.nil,[],[]⟩
theorem Vz (i:Nat):hi61.acts i=[]:=rfl
theorem VA (i:Nat):hi61.views i=none:=rfl
attribute[go_sem] Vz VA ntmps61 results61
@[go_sem] theorem Yr:(hi61.draws 1).order=hi61_1:=rfl
instance k61 {s:GShow} {v1:GChoice} {node:Int}:Ctr (di s v1 node) (fun (res:Bool)=>ak prog 61 [.agg (GShow.encS s),.agg [.sl (ab eI v1.lengths),.sl (ab eI v1.values)],.lit (.int .i64 node)] [] (.lit (.bool res)) []):=⟨by
 intro res h0
 refine co (hi:=hi61) func61 rfl rfl ?_
 unfold di at h0
 exact run⟩
instance k203 {from_:Int} {to:Int} {low:Int} {high:Int} {reason:ByteArray} {out:al} {reasons:List ByteArray}:Ctr (cB from_ to low high reason out reasons) (fun (res:al × (List ByteArray))=>ak prog 203 [.lit (.int .i64 from_),.lit (.int .i64 to),.lit (.int .i64 low),.lit (.int .i64 high),.lit (.string reason),.ptr 10000 0 0 0,.ptr 10002 0 0 0] [(10000,0,.var [.lit (.int .i64 out.events),.ref 10001 0 0 out.links.length]),(10001,0,.row true (ab GLink.enc out.links)),(10002,0,.var [.ref 10003 0 0 reasons.length]),(10003,0,.row true (ab eS reasons))] (.tup []) [(10000,0,.var [.lit (.int .i64 res.1.events),.ref 20000 1 0 res.1.links.length]),(10002,0,.var [.ref 20001 1 0 res.2.length]),(20000,1,.row true (ab GLink.enc res.1.links)),(20001,1,.row true (ab eS res.2))]):=⟨by
 intro res h0
 refine co (hi:=hi00) func203 rfl rfl ?_
 unfold cB at h0
 exact run⟩
instance k110 {n:Int}:Ctr (dF n) (fun (res:ByteArray)=>ak prog 110 [.lit (.int .i64 n)] [] (.lit (.string res)) []):=⟨by
 intro res h0
 refine co (hi:=hi00) func110 rfl rfl ?_
 unfold dF at h0
 obtain⟨r01,g0,h0⟩:=ae h0
 simp(config:=cS)only[go_sem, *]
 refine ag (Fx g0) ?_
 exact run⟩
instance k109 {l:List ByteArray} {by_:ByteArray}:Ctr (lK l by_) (fun (res:ByteArray)=>ak prog 109 [.sl (ab eS l),.lit (.string by_)] [] (.lit (.string res)) []):=⟨by
 intro res h0
 refine co (hi:=hi00) func109 rfl rfl ?_
 unfold lK at h0
 obtain⟨r01,g0,h0⟩:=ae h0
 simp(config:=cS)only[go_sem, *]
 refine ag (Fy g0) ?_
 exact run⟩
@[go_sem] def hi204_5:DT:=.i2 0 (.i1 1 (.i1 2 (.i1 3 (.i1 4 (.i1 5 (.i1 6 (.i1 7 (.i1 8 (.i1 9 (.i1 10 (.i1 11 (.i1 12 (.i1 13 (.i1 14 (.i2 15 (.i2 16 (.i1 18 (.i1 19 (.i0 17 [1,2,3,4,5,6,7,8,9,10,11,12,13,14,18,19] (.i0 20 [1,2,3,4,5,6,7,8,9,10,11,12,13,14] (.r2 21 3 .nil)))))))))))))))))))))
def HB:Hint where
 acts:=fun _=>[]
 draws:=fun
  | 5=>⟨hi204_5,[[],[],[1],[],[3],[1,2,3,4],[1,2,3,4,5],[1,2,3,4,5,6],[],[8],[],[10],[8,9,10,11],[8,9,10,11,12],[8,9,10,11,12,13],[],[15],[15,16],[],[18],[15,16,17,18,19],.range 21,.range 22,.range 23],.range 24⟩
  | _=>⟨.nil,[],[]⟩
theorem Ua (i:Nat):HB.acts i=[]:=rfl
theorem Ub (i:Nat):HB.views i=none:=rfl
attribute[go_sem] Ua Ub ntmps204 results204
@[go_sem] theorem XH:(HB.draws 5).order=hi204_5:=rfl
instance k204 {s:GShow} {i:Int}:Ctr (jY s i) (fun (res:ByteArray)=>ak prog 204 [.agg (GShow.encS s),.lit (.int .i64 i)] [] (.lit (.string res)) []):=⟨by
 intro res h0
 refine co (hi:=HB) func204 rfl rfl ?_
 unfold jY at h0
 exact run⟩
end Go.Proofs.Qc
