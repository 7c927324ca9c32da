/- Functions. -/
import Derived.Test.YtpodkllkinpfmaaGreatDoorXkFK0
set_option linter.all false
set_option maxRecDepth 100000
set_option maxHeartbeats 4000000
namespace Go.Proofs.Qk
open Go Tryz
attribute[go_sem] ntmps266 results266 ntmps189 results189 ntmps267 results267 ntmps187 results187 ntmps224 results224 ntmps269 results269 ntmps193 results193 ntmps194 results194 ntmps88 results88 ntmps93 results93 ntmps195 results195 ntmps311 results311 ntmps270 results270 ntmps191 results191 ntmps86 results86 ntmps188 results188 ntmps83 results83 ntmps91 results91 ntmps272 results272 ntmps254 results254 ntmps177 results177 ntmps255 results255 ntmps172 results172 ntmps81 results81 ntmps261 results261 ntmps175 results175 ntmps344 results344 ntmps309 results309 ntmps265 results265 ntmps310 results310 ntmps258 results258 ntmps313 results313 ntmps275 results275 ntmps108 results108 ntmps260 results260 ntmps264 results264 ntmps263 results263 ntmps70 results70 ntmps185 results185 ntmps186 results186 ntmps82 results82 ntmps23 results23 ntmps29 results29 ntmps308 results308 ntmps256 results256 ntmps212 results212 ntmps109 results109 ntmps127 results127 ntmps257 results257 ntmps173 results173 ntmps225 results225 ntmps129 results129 ntmps128 results128 ntmps293 results293 ntmps142 results142 ntmps229 results229 ntmps289 results289 ntmps228 results228 ntmps330 results330 ntmps291 results291 ntmps356 results356 ntmps326 results326 ntmps230 results230 ntmps94 results94 ntmps112 results112 ntmps141 results141 ntmps292 results292 ntmps231 results231 ntmps278 results278 ntmps134 results134 ntmps136 results136
instance k266 {n:GNode}:Ctr (nP n) (fun (res:Bool)=>ak prog 266 [.agg (GNode.encS n)] [] (.lit (.bool res)) []):=⟨by
 intro res h0
 refine co (hi:=hi00) func266 rfl rfl ?_
 unfold nP at h0
 exact run⟩
@[go_sem] def vB (v35:List GNode)(v36 v37:Int)(v48:List GNode)(v49:Int)(s_1:List GTie)(s_2:Int)(n_0:ByteArray)(n_1:List Int)(n_2 v50:Int):St:=⟨[(1,.ptr 64 1 0 0),(4,.ptr 256 1 0 0),(35,.sl (ab GNode.encS v35)),(36,.lit (.int .i64 v36)),(37,.lit (.int .i64 v37)),(48,.sl (ab GNode.encS v48)),(49,.lit (.int .i64 v49)),(50,.lit (.int .i64 v50))],[(64,1,.var [.sl (ab GNode.encS v35),.sl (ab GTie.enc s_1),.lit (.int .i64 s_2)]),(256,1,.var [.lit (.string n_0),.sl (ab eI n_1),.lit (.int .i64 n_2)])],2⟩
@[go_sem] def vC (v35:List GNode)(v36:Int)(s_1:List GTie)(s_2 v37:Int):St:=⟨[(1,.ptr 64 1 0 0),(35,.sl (ab GNode.encS v35)),(36,.lit (.int .i64 v36)),(37,.lit (.int .i64 v37))],[(64,1,.var [.sl (ab GNode.encS v35),.sl (ab GTie.enc s_1),.lit (.int .i64 s_2)])],2⟩
instance k189 {s:GShow}:Ctr (lR s) (fun (res:Bool)=>ak prog 189 [.agg (GShow.encS s)] [] (.lit (.bool res)) []):=⟨by
 intro res h0
 refine co (hi:=hi00) func189 rfl rfl ?_
 unfold lR at h0
 obtain⟨_,h0⟩|⟨_,h0⟩:=itP h0
 ·exact run
 obtain⟨_,h0⟩|⟨_,h0⟩:=itP h0
 ·exact run
 obtain⟨x01,g1,h0⟩:=af h0
 have:=fv (k:=0) g1
 obtain⟨_,h0⟩|⟨_,h0⟩:=itP h0
 ·exact run
 obtain⟨_,h0⟩|⟨_,h0⟩:=itP h0
 ·obtain⟨q06,l0,h0⟩:=af h0
  simp(config:=cS)only[go_sem, *]
  refine ah (m1:=.mk) (m2:=.mk) [.nf [1,35,36,37] [64]] (vC s.nodes (s.nodes.length:Int) s.ties s.horizon) l0 ?_ ?_
  ·simp(config:=cS)only[go_sem, *]
  have k0:=h0
  clear h0 l0
  intro _ v37_1 _ h0 gb0
  unfold fW at h0
  try dsimp only at h0
  obtain⟨_,h0⟩|⟨_,h0⟩:=itP h0
  ·obtain⟨x02,_,_,_,h0⟩:=gtI h0
   obtain⟨r03,g0,h0⟩:=af h0
   simp(config:=cS)only[go_sem, *]
   have g0:=ctr g0
   refine aj g0 ?_
   obtain⟨_,h0⟩|⟨_,h0⟩:=itB h0
   ·obtain⟨_,h0⟩:=ckP h0
    obtain⟨_,h0⟩:=ckP h0
    obtain⟨q05,l0,h0⟩:=af h0
    simp(config:=cS)only[go_sem, *]
    refine ah (m1:=.mk) (m2:=.mk) [.nf [1,4,35,36,37,48,49,50] [64,256]] (vB s.nodes (s.nodes.length:Int) v37_1 (s.nodes.take v37_1.toNat) (((s.nodes.take v37_1.toNat).length:Nat):Int) s.ties s.horizon x02.name x02.label x02.watch) l0 ?_ ?_
    ·simp(config:=cS)only[go_sem, *]
    have k0:=h0
    clear h0 l0
    intro _ v50_2 _ h0 gb0
    unfold fV at h0
    try dsimp only at h0
    exact run
   exact run
  exact run
 exact run⟩
instance k267 {n:Int}:Ctr (lz n) (fun (res:Bool)=>ak prog 267 [.lit (.int .i64 n)] [] (.lit (.bool res)) []):=⟨by
 intro res h0
 refine co (hi:=hi00) func267 rfl rfl ?_
 unfold lz at h0
 exact run⟩
@[go_sem] def tA (v0 v1:List Int)(v12 v13:Int):St:=⟨[(0,.sl (ab eI v0)),(1,.sl (ab eI v1)),(12,.lit (.int .i64 v12)),(13,.lit (.int .i64 v13))],[],2⟩
@[go_sem] def hi268_6:DT:=.r2 0 9 .nil
def Iq:Hint where
 acts:=fun _=>[]
 draws:=fun
  | 6=>⟨hi268_6,[[],[],[0,1],[0,1,2],[],[],[4,5],[4,5,6],.range 8],.range 9⟩
  | _=>⟨.nil,[],[]⟩
theorem Vz (i:Nat):Iq.acts i=[]:=rfl
theorem VA (i:Nat):Iq.views i=none:=rfl
attribute[go_sem] Vz VA ntmps268 results268
@[go_sem] theorem Zy:(Iq.draws 6).order=hi268_6:=rfl
instance k268 {v0:List Int} {v1:List Int}:Ctr (jq v0 v1) (fun (res:Bool)=>ak prog 268 [.sl (ab eI v0),.sl (ab eI v1)] [] (.lit (.bool res)) []):=⟨by
 intro res h0
 refine co (hi:=Iq) func268 rfl rfl ?_
 unfold jq at h0
 obtain⟨_,h0⟩|⟨_,h0⟩:=itP h0
 ·obtain⟨q03,l0,h0⟩:=af h0
  simp(config:=cS)only[go_sem, *]
  refine ah (m1:=.mk) (m2:=.mk) [.nf [0,1,12,13] []] (tA v0 v1 (v0.length:Int)) l0 ?_ ?_
  ·simp(config:=cS)only[go_sem, *]
  have k0:=h0
  clear h0 l0
  intro _ v13_1 _ h0 gb0
  unfold dK at h0
  try dsimp only at h0
  exact run
 exact run⟩
@[go_sem] def qU (v0:List GTie)(f_v1:Nat)(k_v1:List AV)(v7 v8:Int):St:=⟨[(0,.sl (ab GTie.enc v0)),(1,.fn f_v1 k_v1),(7,.lit (.int .i64 v7)),(8,.lit (.int .i64 v8))],[],2⟩
theorem pt {v0:List GTie}{v1:GTie→Option Bool}{f_v1:Nat}{k_v1:List AV}(hp_v1:∀ y0 r,v1 y0=some r→ak prog f_v1 ([.agg (GTie.enc y0)]++k_v1) [] (.lit (.bool r)) [])(hc_v1:KC k_v1)(hm_v1:∀ a,mdT f_v1 a=⟨[],false⟩)(hk_v1:spf f_v1=false){res:Int}(h:dy v0 v1=some res):ak prog 187 [.sl (ab GTie.enc v0),.fn f_v1 k_v1] [] (.lit (.int .i64 res)) []:=by
 refine co (hi:=hi00) func187 rfl rfl ?_
 unfold dy at h
 obtain⟨q03,l1,h⟩:=af h
 simp(config:=cS)only[go_sem,hc_v1.1,hc_v1.2,hm_v1,hk_v1]
 refine ah (m1:=.mk) (m2:=.mk) [.nf [0,1,7,8] []] (qU v0 f_v1 k_v1 (v0.length:Int)) l1 ?_ ?_
 ·simp(config:=cS)only[go_sem,hc_v1.1,hc_v1.2,hm_v1,hk_v1]
 intro nb2 v8_1 bb2 b2 gb2
 unfold cE at b2
 try dsimp only at b2
 obtain⟨h3,b2⟩|⟨h3,b2⟩:=aP b2
 ·obtain⟨x01,g4,b2⟩:=af b2
  obtain⟨h5,h6,h7⟩:=dO g4
  obtain⟨r02,g8,b2⟩:=af b2
  simp(config:=cS)only[go_sem,hc_v1.1,hc_v1.2,hm_v1,hk_v1,eqT h3,h5,h6,h7]
  refine aj (hp_v1 _ _ g8) ?_
  obtain⟨h9,b2⟩|⟨h9,b2⟩:=aP b2
  ·cases b2
   obtain rfl:=(aD gb2).symm
   try dsimp only at h
   cases h
   simp(config:=cS)only[go_sem,hc_v1.1,hc_v1.2,hm_v1,hk_v1,eqT h3,h5,h6,h7,eZt h9]
  cases b2
  simp(config:=cS)only[go_sem,hc_v1.1,hc_v1.2,hm_v1,hk_v1,eqT h3,h5,h6,h7,eZf h9]
  refine fA gb2 ?_
  simp(config:=cS)only[go_sem,hc_v1.1,hc_v1.2,hm_v1,hk_v1,eqT h3,h5,h6,h7,eZf h9]
 cases b2
 obtain rfl:=(aD gb2).symm
 try dsimp only at h
 cases h
 simp(config:=cS)only[go_sem,hc_v1.1,hc_v1.2,hm_v1,hk_v1,eqF h3]
theorem oq {v0:List GTie}{v1:GTie→Option Bool}{f_v1:Nat}{k_v1:List AV}(hp_v1:∀ y0 r,v1 y0=some r→ak prog f_v1 ([.agg (GTie.enc y0)]++k_v1) [] (.lit (.bool r)) [])(hc_v1:KC k_v1)(hm_v1:∀ a,mdT f_v1 a=⟨[],false⟩)(hk_v1:spf f_v1=false){res:Bool}(h:bO v0 v1=some res):ak prog 224 [.sl (ab GTie.enc v0),.fn f_v1 k_v1] [] (.lit (.bool res)) []:=by
 refine co (hi:=hi00) func224 rfl rfl ?_
 unfold bO at h
 obtain⟨r01,g1,h⟩:=af h
 simp(config:=cS)only[go_sem,hc_v1.1,hc_v1.2,hm_v1,hk_v1]
 refine aj (pt hp_v1 hc_v1 hm_v1 hk_v1 g1) ?_
 cases h
 simp(config:=cS)only[go_sem,hc_v1.1,hc_v1.2,hm_v1,hk_v1]
instance k269 {u:GTie} {t:GTie}:Ctr (jT u t) (fun (res:Bool)=>ak prog 269 [.agg (GTie.enc u),.loc [.lit (.int .i64 t.from_),.lit (.int .i64 t.to),.lit (.int .i64 t.low),.lit (.int .i64 t.high),.lit (.bool t.free)]] [] (.lit (.bool res)) []):=⟨by
 intro res h0
 refine co (hi:=hi00) func269 rfl rfl ?_
 unfold jT at h0
 exact run⟩
@[go_sem] def wG (v6:List GTie)(v7:Int)(s_0:List GNode)(s_2 v8:Int):St:=⟨[(1,.ptr 64 1 0 0),(6,.sl (ab GTie.enc v6)),(7,.lit (.int .i64 v7)),(8,.lit (.int .i64 v8))],[(64,1,.var [.sl (ab GNode.encS s_0),.sl (ab GTie.enc v6),.lit (.int .i64 s_2)])],2⟩
@[go_sem] def hi190_7:DT:=.r2 0 36 .nil
def Ir:Hint where
 acts:=fun _=>[]
 draws:=fun
  | 7=>⟨hi190_7,[[],[0],[0,1],[0,1,2],[0,1,2,3],.range 5,.range 6,.range 7,.range 8,.range 9,.range 10,.range 9,[0,1,2,3,4,5,6,7,8,11],.range 13,.range 14,.range 15,.range 16,.range 17,.range 18,.range 19,.range 20,.range 19,[0,1,2,3,4,5,6,7,8,9,10,11,12,13,14,15,16,17,18,21],.range 23,.range 24,.range 25,.range 19,[0,1,2,3,4,5,6,7,8,9,10,11,12,13,14,15,16,17,18,26],.range 19,[0,1,2,3,4,5,6,7,8,9,10,11,12,13,14,15,16,17,18,28],[0,1,2,3,4,5,6,7,8,9,10,11,12,13,14,15,16,17,18,26,27,28,29],[0,1,2,3,4,5,6,7,8,9,10,11,12,13,14,15,16,17,18,26,27,28,29,30],[0,1,2,3,4,5,6,7,8,9,10,11,12,13,14,15,16,17,18,26,27,28,29,30,31],.range 33,.range 34,.range 35],.range 36⟩
  | _=>⟨.nil,[],[]⟩
theorem VB (i:Nat):Ir.acts i=[]:=rfl
theorem VC (i:Nat):Ir.views i=none:=rfl
attribute[go_sem] VB VC ntmps190 results190
@[go_sem] theorem Zz:(Ir.draws 7).order=hi190_7:=rfl
instance k190 {s:GShow}:Ctr (mO s) (fun (res:Bool)=>ak prog 190 [.agg (GShow.encS s)] [] (.lit (.bool res)) []):=⟨by
 intro res h0
 refine co (hi:=Ir) func190 rfl rfl ?_
 unfold mO at h0
 obtain⟨q10,l0,h0⟩:=af h0
 simp(config:=cS)only[go_sem, *]
 refine ah (m1:=.mk) (m2:=.mk) [.nf [1,6,7,8] [64]] (wG s.ties (s.ties.length:Int) s.nodes s.horizon) l0 ?_ ?_
 ·simp(config:=cS)only[go_sem, *]
 have k0:=h0
 clear h0 l0
 intro _ v8_1 _ h0 gb0
 unfold gY at h0
 try dsimp only at h0
 obtain⟨_,h0⟩|⟨_,h0⟩:=itP h0
 ·obtain⟨x01,_,_,_,h0⟩:=gtI h0
  obtain⟨r02,g0,h0⟩:=af h0
  simp(config:=cS)only[go_sem, *]
  have g0:=ctr g0
  refine aj g0 ?_
  obtain⟨_,h0⟩|⟨_,h0⟩:=itB h0
  ·obtain⟨r03,g0,h0⟩:=af h0
   simp(config:=cS)only[go_sem, *]
   have g0:=ctr g0
   refine aj g0 ?_
   obtain⟨_,h0⟩|⟨_,h0⟩:=itB h0
   ·obtain⟨_,h0⟩|⟨_,h0⟩:=itP h0
    ·exact run
    obtain⟨r04,g0,h0⟩:=af h0
    simp(config:=cS)only[go_sem, *]
    have g0:=ctr g0
    refine aj g0 ?_
    obtain⟨_,h0⟩|⟨_,h0⟩:=itB h0
    ·obtain⟨r05,g0,h0⟩:=af h0
     simp(config:=cS)only[go_sem, *]
     have g0:=ctr g0
     refine aj g0 ?_
     obtain⟨_,h0⟩|⟨_,h0⟩:=itB h0
     ·obtain⟨_,h0⟩|⟨_,h0⟩:=itP h0
      ·exact run
      obtain⟨_,h0⟩|⟨_,h0⟩:=itB h0
      ·obtain⟨_,h0⟩|⟨_,h0⟩:=itP h0
       ·exact run
       obtain⟨_,h0⟩|⟨_,h0⟩:=itP h0
       ·exact run
       obtain⟨x06,_,_,_,h0⟩:=gtI h0
       obtain⟨_,h0⟩|⟨_,h0⟩:=itP h0
       ·obtain⟨x07,_,_,_,h0⟩:=gtI h0
        obtain⟨r08,g0,h0⟩:=af h0
        simp(config:=cS)only[go_sem, *]
        have g0:=ctr g0
        refine aj g0 ?_
        obtain⟨_,h0⟩|⟨_,h0⟩:=itB h0
        ·obtain⟨_,h0⟩:=ckP h0
         obtain⟨_,h0⟩:=ckP h0
         obtain⟨r09,g0,h0⟩:=af h0
         simp(config:=cS)only[go_sem, *]
         refine aj (oq (by exact fun _ _ hr=>by have q:=ctr hr;exact q) (by refine⟨fun _=>?_,fun _=>?_⟩ <;> simp only[go_sem]) (fun _=>rfl) rfl g0) ?_
         exact run
        exact run
       exact run
      exact run
     exact run
    exact run
   exact run
  exact run
 exact run⟩
@[go_sem] def qH (v0:List GNode)(f_v1:Nat)(k_v1:List AV)(v7 v8:Int):St:=⟨[(0,.sl (ab GNode.encS v0)),(1,.fn f_v1 k_v1),(7,.lit (.int .i64 v7)),(8,.lit (.int .i64 v8))],[],2⟩
theorem tW {v0:List GNode}{v1:GNode→Option Bool}{f_v1:Nat}{k_v1:List AV}(hp_v1:∀ y0 r,v1 y0=some r→ak prog f_v1 ([.agg (GNode.encS y0)]++k_v1) [] (.lit (.bool r)) [])(hc_v1:KC k_v1)(hm_v1:∀ a,mdT f_v1 a=⟨[],false⟩)(hk_v1:spf f_v1=false){res:Int}(h:ez v0 v1=some res):ak prog 193 [.sl (ab GNode.encS v0),.fn f_v1 k_v1] [] (.lit (.int .i64 res)) []:=by
 refine co (hi:=hi00) func193 rfl rfl ?_
 unfold ez at h
 obtain⟨q03,l1,h⟩:=af h
 simp(config:=cS)only[go_sem,hc_v1.1,hc_v1.2,hm_v1,hk_v1]
 refine ah (m1:=.mk) (m2:=.mk) [.nf [0,1,7,8] []] (qH v0 f_v1 k_v1 (v0.length:Int)) l1 ?_ ?_
 ·simp(config:=cS)only[go_sem,hc_v1.1,hc_v1.2,hm_v1,hk_v1]
 intro nb2 v8_1 bb2 b2 gb2
 unfold cm at b2
 try dsimp only at b2
 obtain⟨h3,b2⟩|⟨h3,b2⟩:=aP b2
 ·obtain⟨x01,g4,b2⟩:=af b2
  obtain⟨h5,h6,h7⟩:=dO g4
  obtain⟨r02,g8,b2⟩:=af b2
  simp(config:=cS)only[go_sem,hc_v1.1,hc_v1.2,hm_v1,hk_v1,eqT h3,h5,h6,h7]
  refine aj (hp_v1 _ _ g8) ?_
  obtain⟨h9,b2⟩|⟨h9,b2⟩:=aP b2
  ·cases b2
   obtain rfl:=(aD gb2).symm
   try dsimp only at h
   cases h
   simp(config:=cS)only[go_sem,hc_v1.1,hc_v1.2,hm_v1,hk_v1,eqT h3,h5,h6,h7,eZt h9]
  cases b2
  simp(config:=cS)only[go_sem,hc_v1.1,hc_v1.2,hm_v1,hk_v1,eqT h3,h5,h6,h7,eZf h9]
  refine fA gb2 ?_
  simp(config:=cS)only[go_sem,hc_v1.1,hc_v1.2,hm_v1,hk_v1,eqT h3,h5,h6,h7,eZf h9]
 cases b2
 obtain rfl:=(aD gb2).symm
 try dsimp only at h
 cases h
 simp(config:=cS)only[go_sem,hc_v1.1,hc_v1.2,hm_v1,hk_v1,eqF h3]
instance k194 {n:GNode} {p:Int}:Ctr (mw n p) (fun (res:Bool)=>ak prog 194 [.agg (GNode.encS n),.loc [.lit (.int .i64 p)]] [] (.lit (.bool res)) []):=⟨by
 intro res h0
 refine co (hi:=hi00) func194 rfl rfl ?_
 unfold mw at h0
 exact run⟩
instance k88 {s:GShow} {p:Int}:Ctr (bV s p) (fun (res:Int)=>ak prog 88 [.agg (GShow.encS s),.lit (.int .i64 p)] [] (.lit (.int .i64 res)) []):=⟨by
 intro res h0
 refine co (hi:=hi00) func88 rfl rfl ?_
 unfold bV at h0
 obtain⟨r01,g0,h0⟩:=af h0
 simp(config:=cS)only[go_sem, *]
 refine aj (tW (by exact fun _ _ hr=>by have q:=ctr hr;exact q) (by refine⟨fun _=>?_,fun _=>?_⟩ <;> simp only[go_sem]) (fun _=>rfl) rfl g0) ?_
 exact run⟩
@[go_sem] def tB (v0:List Int)(v1 v7 v8:Int):St:=⟨[(0,.sl (ab eI v0)),(1,.lit (.int .i64 v1)),(7,.lit (.int .i64 v7)),(8,.lit (.int .i64 v8))],[],2⟩
instance k93 {v0:List Int} {v1:Int}:Ctr (fX v0 v1) (fun (res:Int)=>ak prog 93 [.sl (ab eI v0),.lit (.int .i64 v1)] [] (.lit (.int .i64 res)) []):=⟨by
 intro res h0
 refine co (hi:=hi00) func93 rfl rfl ?_
 unfold fX at h0
 obtain⟨q02,l0,h0⟩:=af h0
 simp(config:=cS)only[go_sem, *]
 refine ah (m1:=.mk) (m2:=.mk) [.nf [0,1,7,8] []] (tB v0 v1 (v0.length:Int)) l0 ?_ ?_
 ·simp(config:=cS)only[go_sem, *]
 have k0:=h0
 clear h0 l0
 intro _ v8_1 _ h0 gb0
 unfold dL at h0
 try dsimp only at h0
 exact run⟩
instance k195 {v0:List Int} {v1:Int}:Ctr (bl v0 v1) (fun (res:Bool)=>ak prog 195 [.sl (ab eI v0),.lit (.int .i64 v1)] [] (.lit (.bool res)) []):=⟨by
 intro res h0
 refine co (hi:=hi00) func195 rfl rfl ?_
 unfold bl at h0
 exact run⟩
instance k311 {v0:Int} {a:List Int}:Ctr (ja v0 a) (fun (res:Bool)=>ak prog 311 [.lit (.int .i64 v0),.loc [.sl (ab eI a)]] [] (.lit (.bool res)) []):=⟨by
 intro res h0
 refine co (hi:=hi00) func311 rfl rfl ?_
 unfold ja at h0
 exact run⟩
instance k270 {a:List Int} {b:List Int}:Ctr (iu a b) (fun (res:Bool)=>ak prog 270 [.sl (ab eI a),.sl (ab eI b)] [] (.lit (.bool res)) []):=⟨by
 intro res h0
 refine co (hi:=hi00) func270 rfl rfl ?_
 unfold iu at h0
 obtain⟨r01,g0,h0⟩:=af h0
 simp(config:=cS)only[go_sem, *]
 have g0:=ctr g0
 refine aj g0 ?_
 obtain⟨_,h0⟩|⟨_,h0⟩:=itB h0
 ·obtain⟨r02,g0,h0⟩:=af h0
  simp(config:=cS)only[go_sem, *]
  have g0:=ctr g0
  refine aj g0 ?_
  obtain⟨_,h0⟩|⟨_,h0⟩:=itB h0
  ·obtain⟨r03,g0,h0⟩:=af h0
   simp(config:=cS)only[go_sem, *]
   refine aj (gi (by exact fun _ _ hr=>by have q:=ctr hr;exact q) (by refine⟨fun _=>?_,fun _=>?_⟩ <;> simp only[go_sem]) (fun _=>rfl) rfl g0) ?_
   exact run
  exact run
 exact run⟩
@[go_sem] def hi192_1:DT:=.i1 0 (.i2 1 (.i0 2 [0] (.i2 3 (.i2 4 .nil))))
def Is:Hint where
 acts:=fun _=>[]
 draws:=fun
  | 1=>⟨hi192_1,[[],[],[1],[0,1,2],[0,1,2,3]],.range 5⟩
  | _=>⟨.nil,[],[]⟩
theorem VD (i:Nat):Is.acts i=[]:=rfl
theorem VE (i:Nat):Is.views i=none:=rfl
attribute[go_sem] VD VE ntmps192 results192
@[go_sem] theorem ZA:(Is.draws 1).order=hi192_1:=rfl
instance k192 {s:GShow} {label:List Int} {v2:Int}:Ctr (kY s label v2) (fun (res:Bool)=>ak prog 192 [.agg (GShow.encS s),.sl (ab eI label),.lit (.int .i64 v2)] [] (.lit (.bool res)) []):=⟨by
 intro res h0
 refine co (hi:=Is) func192 rfl rfl ?_
 unfold kY at h0
 exact run⟩
instance k191 {v0:Int} {s:GShow} {n:GNode}:Ctr (kZ v0 s n) (fun (res:Bool)=>ak prog 191 [.lit (.int .i64 v0),.loc [.sl (ab GNode.encS s.nodes),.sl (ab GTie.enc s.ties),.lit (.int .i64 s.horizon)],.loc [.lit (.string n.name),.sl (ab eI n.label),.lit (.int .i64 n.watch)]] [] (.lit (.bool res)) []):=⟨by
 intro res h0
 refine co (hi:=hi00) func191 rfl rfl ?_
 unfold kZ at h0
 exact run⟩
@[go_sem] def xQ (v24:List GNode)(v25:Int)(s_1:List GTie)(s_2 v26:Int):St:=⟨[(1,.ptr 64 1 0 0),(24,.sl (ab GNode.encS v24)),(25,.lit (.int .i64 v25)),(26,.lit (.int .i64 v26))],[(64,1,.var [.sl (ab GNode.encS v24),.sl (ab GTie.enc s_1),.lit (.int .i64 s_2)])],2⟩
instance k86 {s:GShow}:Ctr (cM s) (fun (res:Bool)=>ak prog 86 [.agg (GShow.encS s)] [] (.lit (.bool res)) []):=⟨by
 intro res h0
 refine co (hi:=hi00) func86 rfl rfl ?_
 unfold cM at h0
 obtain⟨r01,g0,h0⟩:=af h0
 simp(config:=cS)only[go_sem, *]
 have g0:=ctr g0
 refine aj g0 ?_
 obtain⟨_,h0⟩|⟨_,h0⟩:=itB h0
 ·obtain⟨r02,g0,h0⟩:=af h0
  simp(config:=cS)only[go_sem, *]
  have g0:=ctr g0
  refine aj g0 ?_
  obtain⟨_,h0⟩|⟨_,h0⟩:=itB h0
  ·obtain⟨_,h0⟩|⟨_,h0⟩:=itP h0
   ·exact run
   obtain⟨_,h0⟩|⟨_,h0⟩:=itP h0
   ·exact run
   obtain⟨q05,l0,h0⟩:=af h0
   simp(config:=cS)only[go_sem, *]
   refine ah (m1:=.mk) (m2:=.mk) [.nf [1,24,25,26] [64]] (xQ s.nodes (s.nodes.length:Int) s.ties s.horizon) l0 ?_ ?_
   ·simp(config:=cS)only[go_sem, *]
   have k0:=h0
   clear h0 l0
   intro _ v26_1 _ h0 gb0
   unfold iT at h0
   try dsimp only at h0
   obtain⟨_,h0⟩|⟨_,h0⟩:=itP h0
   ·obtain⟨x03,_,_,_,h0⟩:=gtI h0
    obtain⟨r04,g0,h0⟩:=af h0
    simp(config:=cS)only[go_sem, *]
    refine aj (gi (by exact fun _ _ hr=>by have q:=ctr hr;exact q) (by refine⟨fun _=>?_,fun _=>?_⟩ <;> simp only[go_sem]) (fun _=>rfl) rfl g0) ?_
    exact run
   exact run
  exact run
 exact run⟩
@[go_sem] def cB (n i:Int)(v28:List GCue)(v29 v119:Int)(t_1:List Int)(t_2:Int)(v9_0:ByteArray)(v9_1:Int)(v9_2:Bool)(v9_3 v9_4 v9_5 v9_6:Int)(v9_7:Bool)(v9_8 v9_9 v9_10:Int)(begins ends:List Int)(h1600:List GNode):(Int × (List GTie))→St
 | (v120,h100028673)=>⟨[(1,.ptr 64 1 0 0),(2,.ptr 128 1 0 0),(4,.ref 1152 1 0 begins.length),(5,.ref 1153 1 0 ends.length),(6,.lit (.int .i64 n)),(7,.ptr 448 1 0 0),(8,.lit (.int .i64 i)),(9,.ptr 576 1 0 0),(28,.sl (ab GCue.enc v28)),(29,.lit (.int .i64 v29)),(30,.lit (.int .i64 i)),(119,.lit (.int .i64 v119)),(120,.lit (.int .i64 v120))],[(64,1,.var [.sl (ab GCue.enc v28),.sl (ab eI t_1),.lit (.int .i64 t_2)]),(128,1,.var [.lit (.slice none 0 0),.lit (.slice none 0 0),.lit (.int .i64 0)]),(1152,1,.row true (ab eI begins)),(1153,1,.row true (ab eI ends)),(448,1,.var [.ref 1600 1 0 h1600.length,.ref 100028673 1 0 h100028673.length,.lit (.int .i64 t_2)]),(1600,1,.row true (ab GNode.encO h1600)),(100028673,1,.row true (ab GTie.enc h100028673)),(576,1,.var [.lit (.string v9_0),.lit (.int .i64 v9_1),.lit (.bool v9_2),.lit (.int .i64 v9_3),.lit (.int .i64 v9_4),.lit (.int .i64 v9_5),.lit (.int .i64 v9_6),.lit (.bool v9_7),.lit (.int .i64 v9_8),.lit (.int .i64 v9_9),.lit (.int .i64 v9_10)])],2⟩
@[go_sem] def sF (n:Int)(v28:List GCue)(v29:Int)(t_1:List Int)(t_2:Int)(begins ends:List Int):(Int × (List GNode) × (List GTie))→St
 | (v30,h1600,h100028673)=>⟨[(1,.ptr 64 1 0 0),(2,.ptr 128 1 0 0),(4,.ref 1152 1 0 begins.length),(5,.ref 1153 1 0 ends.length),(6,.lit (.int .i64 n)),(7,.ptr 448 1 0 0),(28,.sl (ab GCue.enc v28)),(29,.lit (.int .i64 v29)),(30,.lit (.int .i64 v30))],[(64,1,.var [.sl (ab GCue.enc v28),.sl (ab eI t_1),.lit (.int .i64 t_2)]),(128,1,.var [.lit (.slice none 0 0),.lit (.slice none 0 0),.lit (.int .i64 0)]),(1152,1,.row true (ab eI begins)),(1153,1,.row true (ab eI ends)),(448,1,.var [.ref 1600 1 0 h1600.length,.ref 100028673 1 0 h100028673.length,.lit (.int .i64 t_2)]),(1600,1,.row true (ab GNode.encO h1600)),(100028673,1,.row true (ab GTie.enc h100028673))],2⟩
@[go_sem] def hi43_22:DT:=.i1 0 (.i1 1 (.r2 2 3 (.i2 6 (.i2 7 (.i1 8 (.i1 9 (.i1 10 (.i1 11 (.i1 12 (.i1 13 (.i2 14 (.i1 15 (.i1 16 (.i0 5 [0,1,8,9,10,11,12,13,15,16] (.i2 17 (.i0 18 [0,1] (.r2 19 3 .nil)))))))))))))))))
@[go_sem] def hi43_21:DT:=.r2 0 20 .nil
@[go_sem] def hi43_17:DT:=.i1 0 (.i1 1 (.r2 2 15 (.i0 17 [0,1] (.r2 18 3 .nil))))
@[go_sem] def hi43_16:DT:=.i1 0 (.i1 1 (.i1 2 (.i1 3 (.r2 4 3 (.i0 7 [0,1,2,3] (.i2 8 (.i0 9 [0,1] (.r2 10 3 .nil))))))))
@[go_sem] def hi43_14:DT:=.i1 0 (.i1 1 (.r2 2 10 (.i0 12 [0,1] (.r2 13 3 .nil))))
@[go_sem] def hi43_8:DT:=.i1 0 (.i1 1 (.i1 2 (.i1 3 (.i2 4 (.i2 5 (.i1 7 (.i1 8 (.i0 6 [0,1,2,3,7,8] (.i2 9 (.i0 10 [0,1] (.r2 11 3 .nil)))))))))))
def hi43:Hint where
 acts:=fun _=>[]
 draws:=fun
  | 8=>⟨hi43_8,[[],[0],[],[2],[],[4],[4,5],[],[7],[2,3,4,5,6,7,8],[2,3,4,5,6,7,8,9],.range 11,.range 12,.range 13],.range 14⟩
  | 14=>⟨hi43_14,[[],[0],[],[],[],[3,4],[3,4,5],[],[7],[],[9],[2,3,4,5,6,7,8,9,10],[2,3,4,5,6,7,8,9,10,11],.range 13,.range 14,.range 15],.range 16⟩
  | 16=>⟨hi43_16,[[],[0],[],[2],[2,3],[],[5],[5,6],[2,3,4,5,6,7],[2,3,4,5,6,7,8],.range 10,.range 11,.range 12],.range 13⟩
  | 17=>⟨hi43_17,[[],[0],[],[],[2,3],[2,3,4],[],[],[6,7],[6,7,8],[],[10],[],[12],[],[14],[2,3,4,5,6,7,8,9,10,11,12,13,14,15],[2,3,4,5,6,7,8,9,10,11,12,13,14,15,16],.range 18,.range 19,.range 20],.range 21⟩
  | 21=>⟨hi43_21,[[],[0],[0,1],[0,1,2],[0,1,2,3],.range 5,[0,1,2,3],.range 7,.range 8,.range 9,[0,1,2,3],[0,1,2,3,10],.range 12,.range 13,.range 14,.range 15,.range 15,.range 15,.range 18,.range 19],.range 20⟩
  | 22=>⟨hi43_22,[[],[0],[],[],[],[2,3,4],[],[],[6,7],[6,7,8],[],[10],[],[12],[12,13],[10,11,12,13,14],[10,11,12,13,14,15],[2,3,4,5,6,7,8,9,10,11,12,13,14,15,16],[2,3,4,5,6,7,8,9,10,11,12,13,14,15,16,17],.range 19,.range 20,.range 21],.range 22⟩
  | _=>⟨.nil,[],[]⟩
theorem Xt (i:Nat):hi43.acts i=[]:=rfl
theorem Xu (i:Nat):hi43.views i=none:=rfl
attribute[go_sem] Xt Xu ntmps43 results43
@[go_sem] theorem aav:(hi43.draws 8).order=hi43_8:=rfl
@[go_sem] theorem ZB:(hi43.draws 14).order=hi43_14:=rfl
@[go_sem] theorem ZC:(hi43.draws 16).order=hi43_16:=rfl
@[go_sem] theorem ZD:(hi43.draws 17).order=hi43_17:=rfl
@[go_sem] theorem ZE:(hi43.draws 21).order=hi43_21:=rfl
@[go_sem] theorem ZF:(hi43.draws 22).order=hi43_22:=rfl
instance k43 {t:GSheet}:Ctr (iv t) (fun (res:GShow × Int)=>ak prog 43 [.agg (GSheet.encS t)] [] (.tup [.agg [.ref 20000 1 0 res.1.nodes.length,.ref 20001 1 0 res.1.ties.length,.lit (.int .i64 res.1.horizon)],.lit (.int .i64 res.2)]) [(20000,1,.row true (ab GNode.encO res.1.nodes)),(20001,1,.row true (ab GTie.enc res.1.ties))]):=⟨by
 intro res h0
 refine aB (ra:=[.homeCell 128 0,.homeCell 128 1]) (md:=mdT) hT (hi:=hi43) func43 rfl rfl (by decide +kernel) (by simp) ?_
 unfold iv at h0
 obtain⟨r01,g0,h0⟩:=af h0
 simp(config:=cS)only[go_sem, *]
 have g0:=ctr g0
 refine aj g0 ?_
 obtain⟨_,h0⟩|⟨_,h0⟩:=itB h0
 ·obtain⟨r02,g0,h0⟩:=af h0
  simp(config:=cS)only[go_sem, *]
  have g0:=ctr g0
  refine aj g0 ?_
  obtain⟨q53,l0,h0⟩:=af h0
  simp(config:=cS)only[go_sem, *]
  refine ah (m1:=.mk) (m2:=.mk) [.homeCell 448 1,.nf [1,2,4,5,6,7,28,29,30] [64,128,1152,1153,448,1600,100028673]] (sF r02.2.2 t.cues (t.cues.length:Int) t.prep t.horizon r02.1 r02.2.1) l0 ?_ ?_
  ·simp(config:=cS)only[go_sem, *]
  have k0:=h0
  clear h0 l0
  intro _ s0 _ h0 gb0
  obtain⟨v30_1,h1600_1,h100028673_1⟩:=s0
  unfold dz at h0
  try dsimp only at h0
  obtain⟨_,h0⟩|⟨_,h0⟩:=itP h0
  ·obtain⟨x03,_,_,_,h0⟩:=gtI h0
   obtain⟨r04,g0,h0⟩:=af h0
   simp(config:=cS)only[go_sem, *]
   have g0:=ctr g0
   refine aj g0 ?_
   obtain⟨_,h0⟩:=ckP h0
   obtain⟨_,h0⟩:=ckP h0
   obtain⟨_,h0⟩|⟨_,h0⟩:=itB h0
   ·obtain⟨r05,g0,h0⟩:=af h0
    simp(config:=cS)only[go_sem, *]
    have g0:=ctr g0
    refine aj g0 ?_
    obtain⟨x06,_,e1,_,h0⟩:=gtI h0
    obtain⟨_,h0⟩:=ckP h0
    obtain⟨_,h0⟩:=ckP h0
    obtain⟨_,h0⟩|⟨_,h0⟩:=itP h0
    ·obtain⟨_,h0⟩:=ckP h0
     obtain⟨_,h0⟩:=ckP h0
     obtain⟨q12,l0,h0⟩:=af h0
     simp(config:=cS)only[go_sem, *]
     refine ah (m1:=.mk) (m2:=.mk) [.nf [1,2,4,5,6,7,8,9,28,29,30,119,120] [64,128,1152,1153,448,1600,100028673,576]] (cB r02.2.2 v30_1 t.cues (t.cues.length:Int) (((t.cues.take v30_1.toNat).length:Nat):Int) t.prep t.horizon x03.name x03.after x03.atEnd x03.low x03.high x03.min_ x03.max_ x03.free x03.if_ x03.watch x03.device r02.1 r02.2.1 (h1600_1++([(GNode.mk x03.name r04 x03.watch)]))) l0 ?_ ?_
     ·simp(config:=cS)only[go_sem, *]
     have k0:=h0
     clear h0 l0
     intro _ s0 _ h0 gb0
     obtain⟨v120_2,h100028673_2⟩:=s0
     unfold aJ at h0
     try dsimp only at h0
     obtain⟨_,h0⟩|⟨_,h0⟩:=itP h0
     ·obtain⟨_,h0⟩|⟨_,h0⟩:=itP h0
      ·exact run
      obtain⟨x07,_,_,_,h0⟩:=gtI h0
      obtain⟨_,h0⟩|⟨_,h0⟩:=itP h0
      ·obtain⟨r08,g0,h0⟩:=af h0
       simp(config:=cS)only[go_sem, *]
       have g0:=ctr g0
       refine aj g0 ?_
       obtain⟨_,h0⟩|⟨_,h0⟩:=itB h0
       ·obtain⟨x09,_,e2,_,h0⟩:=gtI h0
        obtain rfl:=Option.some.inj (e1.symm.trans e2)
        exact run
       exact run
      exact run
     exact run
    obtain⟨_,h0⟩:=ckP h0
    obtain⟨r13,g0,h0⟩:=af h0
    simp(config:=cS)only[go_sem, *]
    have g0:=ctr g0
    refine aj g0 ?_
    obtain⟨a3,h0⟩:=ckP h0
    try simp(config:=cS)only[go_sem]at a3
    obtain⟨a4,h0⟩:=ckP h0
    try simp(config:=cS)only[go_sem]at a4
    obtain⟨x14,_,_,_,h0⟩:=gtI h0
    obtain⟨a5,h0⟩:=ckP h0
    try simp(config:=cS)only[go_sem]at a5
    obtain⟨a6,h0⟩:=ckP h0
    try simp(config:=cS)only[go_sem]at a6
    obtain⟨_,h0⟩:=ckP h0
    obtain⟨_,h0⟩:=ckP h0
    obtain⟨q20,l0,h0⟩:=af h0
    simp(config:=cS)only[go_sem, *]
    refine ah (m1:=.mk) (m2:=.mk) [.nf [1,2,4,5,6,7,8,9,28,29,30,119,120] [64,128,1152,1153,448,1600,100028673,576]] (cB r02.2.2 v30_1 t.cues (t.cues.length:Int) (((t.cues.take v30_1.toNat).length:Nat):Int) t.prep t.horizon x03.name x03.after x03.atEnd x03.low x03.high x03.min_ x03.max_ x03.free x03.if_ x03.watch x03.device r02.1 r02.2.1 ((h1600_1++([(GNode.mk x03.name r04 x03.watch)]))++([(GNode.mk (x03.name++(ByteArray.mk #[122])) r13 0)]))) l0 ?_ ?_
    ·simp(config:=cS)only[go_sem, *]
    have k0:=h0
    clear h0 l0
    intro _ s0 _ h0 gb0
    obtain⟨v120_3,h100028673_3⟩:=s0
    unfold aJ at h0
    try dsimp only at h0
    obtain⟨_,h0⟩|⟨_,h0⟩:=itP h0
    ·obtain⟨_,h0⟩|⟨_,h0⟩:=itP h0
     ·exact run
     obtain⟨x15,_,_,_,h0⟩:=gtI h0
     obtain⟨_,h0⟩|⟨_,h0⟩:=itP h0
     ·obtain⟨r16,g0,h0⟩:=af h0
      simp(config:=cS)only[go_sem, *]
      have g0:=ctr g0
      refine aj g0 ?_
      obtain⟨_,h0⟩|⟨_,h0⟩:=itB h0
      ·obtain⟨x17,_,e7,_,h0⟩:=gtI h0
       obtain rfl:=Option.some.inj (e1.symm.trans e7)
       exact run
      exact run
     exact run
    exact run
   obtain⟨_,h0⟩|⟨_,h0⟩:=itP h0
   ·obtain⟨x21,_,_,_,h0⟩:=gtI h0
    obtain⟨x22,_,e8,_,h0⟩:=gtI h0
    obtain⟨_,h0⟩:=ckP h0
    obtain⟨_,h0⟩:=ckP h0
    obtain⟨_,h0⟩|⟨_,h0⟩:=itP h0
    ·obtain⟨_,h0⟩:=ckP h0
     obtain⟨_,h0⟩:=ckP h0
     obtain⟨q28,l0,h0⟩:=af h0
     simp(config:=cS)only[go_sem, *]
     refine ah (m1:=.mk) (m2:=.mk) [.nf [1,2,4,5,6,7,8,9,28,29,30,119,120] [64,128,1152,1153,448,1600,100028673,576]] (cB r02.2.2 v30_1 t.cues (t.cues.length:Int) (((t.cues.take v30_1.toNat).length:Nat):Int) t.prep t.horizon x03.name x03.after x03.atEnd x03.low x03.high x03.min_ x03.max_ x03.free x03.if_ x03.watch x03.device r02.1 r02.2.1 (h1600_1++([(GNode.mk x03.name r04 x03.watch)]))) l0 ?_ ?_
     ·simp(config:=cS)only[go_sem, *]
     have k0:=h0
     clear h0 l0
     intro _ s0 _ h0 gb0
     obtain⟨v120_4,h100028673_4⟩:=s0
     unfold aJ at h0
     try dsimp only at h0
     obtain⟨_,h0⟩|⟨_,h0⟩:=itP h0
     ·obtain⟨_,h0⟩|⟨_,h0⟩:=itP h0
      ·exact run
      obtain⟨x23,_,_,_,h0⟩:=gtI h0
      obtain⟨_,h0⟩|⟨_,h0⟩:=itP h0
      ·obtain⟨r24,g0,h0⟩:=af h0
       simp(config:=cS)only[go_sem, *]
       have g0:=ctr g0
       refine aj g0 ?_
       obtain⟨_,h0⟩|⟨_,h0⟩:=itB h0
       ·obtain⟨x25,_,e9,_,h0⟩:=gtI h0
        obtain rfl:=Option.some.inj (e8.symm.trans e9)
        exact run
       exact run
      exact run
     exact run
    obtain⟨_,h0⟩:=ckP h0
    obtain⟨r29,g0,h0⟩:=af h0
    simp(config:=cS)only[go_sem, *]
    have g0:=ctr g0
    refine aj g0 ?_
    obtain⟨a10,h0⟩:=ckP h0
    try simp(config:=cS)only[go_sem]at a10
    obtain⟨a11,h0⟩:=ckP h0
    try simp(config:=cS)only[go_sem]at a11
    obtain⟨x30,_,_,_,h0⟩:=gtI h0
    obtain⟨a12,h0⟩:=ckP h0
    try simp(config:=cS)only[go_sem]at a12
    obtain⟨a13,h0⟩:=ckP h0
    try simp(config:=cS)only[go_sem]at a13
    obtain⟨_,h0⟩:=ckP h0
    obtain⟨_,h0⟩:=ckP h0
    obtain⟨q36,l0,h0⟩:=af h0
    simp(config:=cS)only[go_sem, *]
    refine ah (m1:=.mk) (m2:=.mk) [.nf [1,2,4,5,6,7,8,9,28,29,30,119,120] [64,128,1152,1153,448,1600,100028673,576]] (cB r02.2.2 v30_1 t.cues (t.cues.length:Int) (((t.cues.take v30_1.toNat).length:Nat):Int) t.prep t.horizon x03.name x03.after x03.atEnd x03.low x03.high x03.min_ x03.max_ x03.free x03.if_ x03.watch x03.device r02.1 r02.2.1 ((h1600_1++([(GNode.mk x03.name r04 x03.watch)]))++([(GNode.mk (x03.name++(ByteArray.mk #[122])) r29 0)]))) l0 ?_ ?_
    ·simp(config:=cS)only[go_sem, *]
    have k0:=h0
    clear h0 l0
    intro _ s0 _ h0 gb0
    obtain⟨v120_5,h100028673_5⟩:=s0
    unfold aJ at h0
    try dsimp only at h0
    obtain⟨_,h0⟩|⟨_,h0⟩:=itP h0
    ·obtain⟨_,h0⟩|⟨_,h0⟩:=itP h0
     ·exact run
     obtain⟨x31,_,_,_,h0⟩:=gtI h0
     obtain⟨_,h0⟩|⟨_,h0⟩:=itP h0
     ·obtain⟨r32,g0,h0⟩:=af h0
      simp(config:=cS)only[go_sem, *]
      have g0:=ctr g0
      refine aj g0 ?_
      obtain⟨_,h0⟩|⟨_,h0⟩:=itB h0
      ·obtain⟨x33,_,e14,_,h0⟩:=gtI h0
       obtain rfl:=Option.some.inj (e8.symm.trans e14)
       exact run
      exact run
     exact run
    exact run
   obtain⟨x37,_,e15,_,h0⟩:=gtI h0
   obtain⟨_,h0⟩:=ckP h0
   obtain⟨_,h0⟩:=ckP h0
   obtain⟨_,h0⟩|⟨_,h0⟩:=itP h0
   ·obtain⟨_,h0⟩:=ckP h0
    obtain⟨_,h0⟩:=ckP h0
    obtain⟨q43,l0,h0⟩:=af h0
    simp(config:=cS)only[go_sem, *]
    refine ah (m1:=.mk) (m2:=.mk) [.nf [1,2,4,5,6,7,8,9,28,29,30,119,120] [64,128,1152,1153,448,1600,100028673,576]] (cB r02.2.2 v30_1 t.cues (t.cues.length:Int) (((t.cues.take v30_1.toNat).length:Nat):Int) t.prep t.horizon x03.name x03.after x03.atEnd x03.low x03.high x03.min_ x03.max_ x03.free x03.if_ x03.watch x03.device r02.1 r02.2.1 (h1600_1++([(GNode.mk x03.name r04 x03.watch)]))) l0 ?_ ?_
    ·simp(config:=cS)only[go_sem, *]
    have k0:=h0
    clear h0 l0
    intro _ s0 _ h0 gb0
    obtain⟨v120_6,h100028673_6⟩:=s0
    unfold aJ at h0
    try dsimp only at h0
    obtain⟨_,h0⟩|⟨_,h0⟩:=itP h0
    ·obtain⟨_,h0⟩|⟨_,h0⟩:=itP h0
     ·exact run
     obtain⟨x38,_,_,_,h0⟩:=gtI h0
     obtain⟨_,h0⟩|⟨_,h0⟩:=itP h0
     ·obtain⟨r39,g0,h0⟩:=af h0
      simp(config:=cS)only[go_sem, *]
      have g0:=ctr g0
      refine aj g0 ?_
      obtain⟨_,h0⟩|⟨_,h0⟩:=itB h0
      ·obtain⟨x40,_,e16,_,h0⟩:=gtI h0
       obtain rfl:=Option.some.inj (e15.symm.trans e16)
       exact run
      exact run
     exact run
    exact run
   obtain⟨_,h0⟩:=ckP h0
   obtain⟨r44,g0,h0⟩:=af h0
   simp(config:=cS)only[go_sem, *]
   have g0:=ctr g0
   refine aj g0 ?_
   obtain⟨a17,h0⟩:=ckP h0
   try simp(config:=cS)only[go_sem]at a17
   obtain⟨a18,h0⟩:=ckP h0
   try simp(config:=cS)only[go_sem]at a18
   obtain⟨x45,_,_,_,h0⟩:=gtI h0
   obtain⟨a19,h0⟩:=ckP h0
   try simp(config:=cS)only[go_sem]at a19
   obtain⟨a20,h0⟩:=ckP h0
   try simp(config:=cS)only[go_sem]at a20
   obtain⟨_,h0⟩:=ckP h0
   obtain⟨_,h0⟩:=ckP h0
   obtain⟨q51,l0,h0⟩:=af h0
   simp(config:=cS)only[go_sem, *]
   refine ah (m1:=.mk) (m2:=.mk) [.nf [1,2,4,5,6,7,8,9,28,29,30,119,120] [64,128,1152,1153,448,1600,100028673,576]] (cB r02.2.2 v30_1 t.cues (t.cues.length:Int) (((t.cues.take v30_1.toNat).length:Nat):Int) t.prep t.horizon x03.name x03.after x03.atEnd x03.low x03.high x03.min_ x03.max_ x03.free x03.if_ x03.watch x03.device r02.1 r02.2.1 ((h1600_1++([(GNode.mk x03.name r04 x03.watch)]))++([(GNode.mk (x03.name++(ByteArray.mk #[122])) r44 0)]))) l0 ?_ ?_
   ·simp(config:=cS)only[go_sem, *]
   have k0:=h0
   clear h0 l0
   intro _ s0 _ h0 gb0
   obtain⟨v120_7,h100028673_7⟩:=s0
   unfold aJ at h0
   try dsimp only at h0
   obtain⟨_,h0⟩|⟨_,h0⟩:=itP h0
   ·obtain⟨_,h0⟩|⟨_,h0⟩:=itP h0
    ·exact run
    obtain⟨x46,_,_,_,h0⟩:=gtI h0
    obtain⟨_,h0⟩|⟨_,h0⟩:=itP h0
    ·obtain⟨r47,g0,h0⟩:=af h0
     simp(config:=cS)only[go_sem, *]
     have g0:=ctr g0
     refine aj g0 ?_
     obtain⟨_,h0⟩|⟨_,h0⟩:=itB h0
     ·obtain⟨x48,_,e21,_,h0⟩:=gtI h0
      obtain rfl:=Option.some.inj (e15.symm.trans e21)
      exact run
     exact run
    exact run
   exact run
  exact run
 exact run⟩
instance k188 {t:GTie} {node:Int}:Ctr (my t node) (fun (res:Bool)=>ak prog 188 [.agg (GTie.enc t),.loc [.lit (.int .i64 node)]] [] (.lit (.bool res)) []):=⟨by
 intro res h0
 refine co (hi:=hi00) func188 rfl rfl ?_
 unfold my at h0
 exact run⟩
instance k83 {s:GShow} {node:Int}:Ctr (fY s node) (fun (res:Int)=>ak prog 83 [.agg (GShow.encS s),.lit (.int .i64 node)] [] (.lit (.int .i64 res)) []):=⟨by
 intro res h0
 refine co (hi:=hi00) func83 rfl rfl ?_
 unfold fY at h0
 obtain⟨r01,g0,h0⟩:=af h0
 simp(config:=cS)only[go_sem, *]
 refine aj (pt (by exact fun _ _ hr=>by have q:=ctr hr;exact q) (by refine⟨fun _=>?_,fun _=>?_⟩ <;> simp only[go_sem]) (fun _=>rfl) rfl g0) ?_
 exact run⟩
@[go_sem] def wH (s_0:List GNode)(s_1:List GTie)(s_2:Int):(Int × (List Int))→St
 | (node,chain)=>⟨[(1,.lit (.int .i64 node)),(2,.ptr 128 1 0 0),(6,.ref 447 1 0 chain.length)],[(128,1,.var [.sl (ab GNode.encS s_0),.sl (ab GTie.enc s_1),.lit (.int .i64 s_2)]),(447,1,.row true (ab eI chain))],2⟩
@[go_sem] def hi92_7:DT:=.i2 0 (.i2 1 (.i1 4 (.i1 5 (.i2 6 (.i1 7 (.i1 8 (.i1 9 (.i0 2 [4,5,7,8,9] (.i0 3 [4,5,7,8,9] (.i2 10 (.i2 11 .nil)))))))))))
def hi92:Hint where
 acts:=fun _=>[]
 draws:=fun
  | 7=>⟨hi92_7,[[],[],[1],[0,1,2],[],[4],[],[4,5,6],[4,5,6,7],[4,5,6,7,8],[0,1,2,3],.range 11],[0,1,2,3,5,6,7,8,9,10,4,11]⟩
  | _=>⟨.nil,[],[]⟩
theorem Xv (i:Nat):hi92.acts i=[]:=rfl
theorem Xw (i:Nat):hi92.views i=none:=rfl
attribute[go_sem] Xv Xw ntmps92 results92
@[go_sem] theorem aaw:(hi92.draws 7).order=hi92_7:=rfl
instance k92 {s:GShow} {node:Int}:Ctr (bA s node) (fun (res:Int × (List Int))=>ak prog 92 [.agg (GShow.encS s),.lit (.int .i64 node)] [] (.tup [.lit (.int .i64 res.1),.ref 20000 1 0 res.2.length]) [(20000,1,.row true (ab eI res.2))]):=⟨by
 intro res h0
 refine aB (ra:=[.home 5]) (md:=mdT) hT (hi:=hi92) func92 rfl rfl (by decide +kernel) (by simp) ?_
 unfold bA at h0
 obtain⟨q04,l0,h0⟩:=af h0
 simp(config:=cS)only[go_sem, *]
 refine ah (m1:=.mk) (m2:=.mk) [.home 6,.nf [1,2,6] [128,447]] (wH s.nodes s.ties s.horizon) l0 ?_ ?_
 ·simp(config:=cS)only[go_sem, *]
 have k0:=h0
 clear h0 l0
 intro _ s0 _ h0 gb0
 obtain⟨node_1,chain_1⟩:=s0
 unfold cg at h0
 try dsimp only at h0
 exact run⟩
@[go_sem] def wI (v11:List GNode)(v12:Int)(s_1:List GTie)(s_2 v13:Int):St:=⟨[(1,.ptr 64 1 0 0),(11,.sl (ab GNode.encS v11)),(12,.lit (.int .i64 v12)),(13,.lit (.int .i64 v13))],[(64,1,.var [.sl (ab GNode.encS v11),.sl (ab GTie.enc s_1),.lit (.int .i64 s_2)])],2⟩
instance k91 {s:GShow}:Ctr (mP s) (fun (res:Bool)=>ak prog 91 [.agg (GShow.encS s)] [] (.lit (.bool res)) []):=⟨by
 intro res h0
 refine co (hi:=hi00) func91 rfl rfl ?_
 unfold mP at h0
 obtain⟨r01,g0,h0⟩:=af h0
 simp(config:=cS)only[go_sem, *]
 have g0:=ctr g0
 refine aj g0 ?_
 obtain⟨_,h0⟩|⟨_,h0⟩:=itB h0
 ·obtain⟨q04,l0,h0⟩:=af h0
  simp(config:=cS)only[go_sem, *]
  refine ah (m1:=.mk) (m2:=.mk) [.nf [1,11,12,13] [64]] (wI s.nodes (s.nodes.length:Int) s.ties s.horizon) l0 ?_ ?_
  ·simp(config:=cS)only[go_sem, *]
  have k0:=h0
  clear h0 l0
  intro _ v13_1 _ h0 gb0
  unfold gZ at h0
  try dsimp only at h0
  exact run
 exact run⟩
@[go_sem] def wJ (but v12:List Int)(v13:Int)(s_0:List GNode)(s_1:List GTie)(s_2:Int):(Int × Int × Int)→St
 | (low,high,v14)=>⟨[(2,.sl (ab eI but)),(3,.ptr 192 1 0 0),(8,.lit (.int .i64 low)),(9,.lit (.int .i64 high)),(12,.sl (ab eI v12)),(13,.lit (.int .i64 v13)),(14,.lit (.int .i64 v14))],[(192,1,.var [.sl (ab GNode.encS s_0),.sl (ab GTie.enc s_1),.lit (.int .i64 s_2)])],2⟩
@[go_sem] def hi184_6:DT:=.r2 0 18 .nil
def It:Hint where
 acts:=fun _=>[]
 draws:=fun
  | 6=>⟨hi184_6,[[],[],[1],[],[1,2,3],[1,2,3,4],[1,2,3,4,5],.range 7,[],[],[9],[],[9,10,11],[9,10,11,12],[9,10,11,12,13],[8,9,10,11,12,13,14],.range 8,.range 17],[0,1,2,3,4,5,6,7,9,10,11,12,13,14,15,16,8,17]⟩
  | _=>⟨.nil,[],[]⟩
theorem VG (i:Nat):It.acts i=[]:=rfl
theorem VH (i:Nat):It.views i=none:=rfl
attribute[go_sem] VG VH ntmps184 results184
@[go_sem] theorem ZG:(It.draws 6).order=hi184_6:=rfl
instance k184 {s:GShow} {ties:List Int} {but:List Int}:Ctr (iU s ties but) (fun (res:Int × Int)=>ak prog 184 [.agg (GShow.encS s),.sl (ab eI ties),.sl (ab eI but)] [] (.tup [.lit (.int .i64 res.1),.lit (.int .i64 res.2)]) []):=⟨by
 intro res h0
 refine co (hi:=It) func184 rfl rfl ?_
 unfold iU at h0
 obtain⟨q04,l0,h0⟩:=af h0
 simp(config:=cS)only[go_sem, *]
 refine ah (m1:=.mk) (m2:=.mk) [.nf [2,3,8,9,12,13,14] [192]] (wJ but ties (ties.length:Int) s.nodes s.ties s.horizon) l0 ?_ ?_
 ·simp(config:=cS)only[go_sem, *]
 have k0:=h0
 clear h0 l0
 intro _ s0 _ h0 gb0
 obtain⟨low_1,high_1,v14_1⟩:=s0
 unfold hD at h0
 try dsimp only at h0
 exact run⟩
@[go_sem] def qI (v0:List GLink)(f_v1:Nat)(k_v1:List AV)(v7 v8:Int):St:=⟨[(0,.sl (ab GLink.enc v0)),(1,.fn f_v1 k_v1),(7,.lit (.int .i64 v7)),(8,.lit (.int .i64 v8))],[],2⟩
theorem tX {v0:List GLink}{v1:GLink→Option Bool}{f_v1:Nat}{k_v1:List AV}(hp_v1:∀ y0 r,v1 y0=some r→ak prog f_v1 ([.agg (GLink.enc y0)]++k_v1) [] (.lit (.bool r)) [])(hc_v1:KC k_v1)(hm_v1:∀ a,mdT f_v1 a=⟨[],false⟩)(hk_v1:spf f_v1=false){res:Int}(h:eA v0 v1=some res):ak prog 272 [.sl (ab GLink.enc v0),.fn f_v1 k_v1] [] (.lit (.int .i64 res)) []:=by
 refine co (hi:=hi00) func272 rfl rfl ?_
 unfold eA at h
 obtain⟨q03,l1,h⟩:=af h
 simp(config:=cS)only[go_sem,hc_v1.1,hc_v1.2,hm_v1,hk_v1]
 refine ah (m1:=.mk) (m2:=.mk) [.nf [0,1,7,8] []] (qI v0 f_v1 k_v1 (v0.length:Int)) l1 ?_ ?_
 ·simp(config:=cS)only[go_sem,hc_v1.1,hc_v1.2,hm_v1,hk_v1]
 intro nb2 v8_1 bb2 b2 gb2
 unfold cn at b2
 try dsimp only at b2
 obtain⟨h3,b2⟩|⟨h3,b2⟩:=aP b2
 ·obtain⟨x01,g4,b2⟩:=af b2
  obtain⟨h5,h6,h7⟩:=dO g4
  obtain⟨r02,g8,b2⟩:=af b2
  simp(config:=cS)only[go_sem,hc_v1.1,hc_v1.2,hm_v1,hk_v1,eqT h3,h5,h6,h7]
  refine aj (hp_v1 _ _ g8) ?_
  obtain⟨h9,b2⟩|⟨h9,b2⟩:=aP b2
  ·cases b2
   obtain rfl:=(aD gb2).symm
   try dsimp only at h
   cases h
   simp(config:=cS)only[go_sem,hc_v1.1,hc_v1.2,hm_v1,hk_v1,eqT h3,h5,h6,h7,eZt h9]
  cases b2
  simp(config:=cS)only[go_sem,hc_v1.1,hc_v1.2,hm_v1,hk_v1,eqT h3,h5,h6,h7,eZf h9]
  refine fA gb2 ?_
  simp(config:=cS)only[go_sem,hc_v1.1,hc_v1.2,hm_v1,hk_v1,eqT h3,h5,h6,h7,eZf h9]
 cases b2
 obtain rfl:=(aD gb2).symm
 try dsimp only at h
 cases h
 simp(config:=cS)only[go_sem,hc_v1.1,hc_v1.2,hm_v1,hk_v1,eqF h3]
theorem rZ {v0:List GLink}{v1:GLink→Option Bool}{f_v1:Nat}{k_v1:List AV}(hp_v1:∀ y0 r,v1 y0=some r→ak prog f_v1 ([.agg (GLink.enc y0)]++k_v1) [] (.lit (.bool r)) [])(hc_v1:KC k_v1)(hm_v1:∀ a,mdT f_v1 a=⟨[],false⟩)(hk_v1:spf f_v1=false){res:Bool}(h:dl v0 v1=some res):ak prog 254 [.sl (ab GLink.enc v0),.fn f_v1 k_v1] [] (.lit (.bool res)) []:=by
 refine co (hi:=hi00) func254 rfl rfl ?_
 unfold dl at h
 obtain⟨r01,g1,h⟩:=af h
 simp(config:=cS)only[go_sem,hc_v1.1,hc_v1.2,hm_v1,hk_v1]
 refine aj (tX hp_v1 hc_v1 hm_v1 hk_v1 g1) ?_
 cases h
 simp(config:=cS)only[go_sem,hc_v1.1,hc_v1.2,hm_v1,hk_v1]
instance k177 {i:am}:Ctr (hU i) (fun (res:Bool)=>ak prog 177 [.agg [.lit (.int .i64 i.low),.lit (.int .i64 i.high)]] [] (.lit (.bool res)) []):=⟨by
 intro res h0
 refine co (hi:=hi00) func177 rfl rfl ?_
 unfold hU at h0
 exact run⟩
instance k255 {l:GLink} {s:GSimple}:Ctr (jr l s) (fun (res:Bool)=>ak prog 255 [.agg (GLink.enc l),.loc [.lit (.int .i64 s.events),.sl (ab GLink.enc s.links)]] [] (.lit (.bool res)) []):=⟨by
 intro res h0
 refine co (hi:=hi00) func255 rfl rfl ?_
 unfold jr at h0
 exact run⟩
instance k172 {s:GSimple}:Ctr (dD s) (fun (res:Bool)=>ak prog 172 [.agg [.lit (.int .i64 s.events),.sl (ab GLink.enc s.links)]] [] (.lit (.bool res)) []):=⟨by
 intro res h0
 refine co (hi:=hi00) func172 rfl rfl ?_
 unfold dD at h0
 obtain⟨_,h0⟩|⟨_,h0⟩:=itP h0
 ·exact run
 obtain⟨_,h0⟩|⟨_,h0⟩:=itP h0
 ·exact run
 obtain⟨_,h0⟩|⟨_,h0⟩:=itP h0
 ·exact run
 obtain⟨r01,g0,h0⟩:=af h0
 simp(config:=cS)only[go_sem, *]
 refine aj (rZ (by exact fun _ _ hr=>by have q:=ctr hr;exact q) (by refine⟨fun _=>?_,fun _=>?_⟩ <;> simp only[go_sem]) (fun _=>rfl) rfl g0) ?_
 exact run⟩
@[go_sem] def sa (v31:Int)(s_0:List GNode)(s_1:List GTie)(s_2:Int):(Int × (List GLink))→St
 | (v32,h100016385)=>⟨[(1,.ptr 64 1 0 0),(2,.ptr 128 1 0 0),(4,.ptr 256 1 0 0),(31,.lit (.int .i64 v31)),(32,.lit (.int .i64 v32))],[(64,1,.var [.sl (ab GNode.encS s_0),.sl (ab GTie.enc s_1),.lit (.int .i64 s_2)]),(128,1,.var [.lit (.int .i64 0),.lit (.slice none 0 0)]),(256,1,.var [.lit (.int .i64 v31),.ref 100016385 1 0 h100016385.length]),(100016385,1,.row true (ab GLink.enc h100016385))],2⟩
@[go_sem] def sb (v63:List GTie)(v64:Int)(s_0:List GNode)(s_2 out_0:Int):(Int × (List GLink))→St
 | (v65,h100016385)=>⟨[(1,.ptr 64 1 0 0),(2,.ptr 128 1 0 0),(4,.ptr 256 1 0 0),(63,.sl (ab GTie.enc v63)),(64,.lit (.int .i64 v64)),(65,.lit (.int .i64 v65))],[(64,1,.var [.sl (ab GNode.encS s_0),.sl (ab GTie.enc v63),.lit (.int .i64 s_2)]),(128,1,.var [.lit (.int .i64 0),.lit (.slice none 0 0)]),(256,1,.var [.lit (.int .i64 out_0),.ref 100016385 1 0 h100016385.length]),(100016385,1,.row true (ab GLink.enc h100016385))],2⟩
@[go_sem] def sc (v123:Int)(s_0:List GNode)(s_1:List GTie)(s_2:Int):(Int × (List GLink))→St
 | (v124,h100016385)=>⟨[(1,.ptr 64 1 0 0),(2,.ptr 128 1 0 0),(4,.ptr 256 1 0 0),(123,.lit (.int .i64 v123)),(124,.lit (.int .i64 v124))],[(64,1,.var [.sl (ab GNode.encS s_0),.sl (ab GTie.enc s_1),.lit (.int .i64 s_2)]),(128,1,.var [.lit (.int .i64 0),.lit (.slice none 0 0)]),(256,1,.var [.lit (.int .i64 v123),.ref 100016385 1 0 h100016385.length]),(100016385,1,.row true (ab GLink.enc h100016385))],2⟩
instance k81 {s:GShow}:Ctr (gB s) (fun (res:GSimple × Bool)=>ak prog 81 [.agg (GShow.encS s)] [] (.tup [.agg [.lit (.int .i64 res.1.events),.ref 20000 1 0 res.1.links.length],.lit (.bool res.2)]) [(20000,1,.row true (ab GLink.enc res.1.links))]):=⟨by
 intro res h0
 refine aB (ra:=[.homeCell 128 1]) (md:=mdT) hT (hi:=hi00) func81 rfl rfl (by decide +kernel) (by simp) ?_
 unfold gB at h0
 obtain⟨r01,g0,h0⟩:=af h0
 simp(config:=cS)only[go_sem, *]
 have g0:=ctr g0
 refine aj g0 ?_
 obtain⟨_,h0⟩|⟨_,h0⟩:=itB h0
 ·obtain⟨q13,l0,h0⟩:=af h0
  simp(config:=cS)only[go_sem, *]
  refine ah (m1:=.mk) (m2:=.mk) [.homeCell 256 1,.nf [1,2,4,31,32] [64,128,256,100016385]] (sa (s.nodes.length:Int) s.nodes s.ties s.horizon) l0 ?_ ?_
  ·simp(config:=cS)only[go_sem, *]
  have k0:=h0
  clear h0 l0
  intro _ s0 _ h0 gb0
  obtain⟨v32_1,h100016385_1⟩:=s0
  unfold dc at h0
  try dsimp only at h0
  obtain⟨_,h0⟩|⟨_,h0⟩:=itP h0
  ·exact run
  cases h0
  obtain rfl:=(aD gb0).symm
  clear gb0
  have h0:=k0
  clear k0
  try dsimp only at h0
  obtain⟨q12,l0,h0⟩:=af h0
  simp(config:=cS)only[go_sem, *]
  refine ah (m1:=.mk) (m2:=.mk) [.nf [1,2,4,63,64,65] [64,128,256,100016385]] (sb s.ties (s.ties.length:Int) s.nodes s.horizon (s.nodes.length:Int)) l0 ?_ ?_
  ·simp(config:=cS)only[go_sem, *]
  have k0:=h0
  clear h0 l0
  intro _ s0 _ h0 gb0
  obtain⟨v65_2,h100016385_2⟩:=s0
  unfold dd at h0
  try dsimp only at h0
  obtain⟨_,h0⟩|⟨_,h0⟩:=itP h0
  ·exact run
  cases h0
  obtain rfl:=(aD gb0).symm
  clear gb0
  have h0:=k0
  clear k0
  try dsimp only at h0
  obtain⟨q11,l0,h0⟩:=af h0
  simp(config:=cS)only[go_sem, *]
  refine ah (m1:=.mk) (m2:=.mk) [.nf [1,2,4,123,124] [64,128,256,100016385]] (sc (s.nodes.length:Int) s.nodes s.ties s.horizon) l0 ?_ ?_
  ·simp(config:=cS)only[go_sem, *]
  have k0:=h0
  clear h0 l0
  intro _ s0 _ h0 gb0
  obtain⟨v124_3,h100016385_3⟩:=s0
  unfold de at h0
  try dsimp only at h0
  exact run
 exact run⟩
@[go_sem] def wK (v12:List GLink)(v13 g_0:Int):(Int × (List Int) × (List GEdge))→St
 | (v14,links,h100016385)=>⟨[(2,.ptr 128 1 0 0),(4,.ptr 256 1 0 0),(5,.ref 383 1 0 links.length),(12,.sl (ab GLink.enc v12)),(13,.lit (.int .i64 v13)),(14,.lit (.int .i64 v14))],[(128,1,.var [.lit (.int .i64 0),.lit (.slice none 0 0)]),(256,1,.var [.lit (.int .i64 g_0),.ref 100016385 1 0 h100016385.length]),(100016385,1,.row true (ab GEdge.enc h100016385)),(383,1,.row true (ab eI links))],2⟩
instance k261 {s:GSimple}:Ctr (mQ s) (fun (res:GGraph × (List Int))=>ak prog 261 [.agg [.lit (.int .i64 s.events),.sl (ab GLink.enc s.links)]] [] (.tup [.agg [.lit (.int .i64 res.1.nodes),.ref 20000 1 0 res.1.edges.length],.ref 20001 1 0 res.2.length]) [(20000,1,.row true (ab GEdge.enc res.1.edges)),(20001,1,.row true (ab eI res.2))]):=⟨by
 intro res h0
 refine aB (ra:=[.homeCell 128 1,.home 3]) (md:=mdT) hT (hi:=hi00) func261 rfl rfl (by decide +kernel) (by simp) ?_
 unfold mQ at h0
 obtain⟨q02,l0,h0⟩:=af h0
 simp(config:=cS)only[go_sem, *]
 refine ah (m1:=.mk) (m2:=.mk) [.home 5,.homeCell 256 1,.nf [2,4,5,12,13,14] [128,256,100016385,383]] (wK s.links (s.links.length:Int) s.events) l0 ?_ ?_
 ·simp(config:=cS)only[go_sem, *]
 have k0:=h0
 clear h0 l0
 intro _ s0 _ h0 gb0
 obtain⟨v14_1,links_1,h100016385_1⟩:=s0
 unfold hY at h0
 try dsimp only at h0
 obtain⟨_,h0⟩|⟨_,h0⟩:=itP h0
 ·obtain⟨x01,_,_,_,h0⟩:=gtI h0
  obtain⟨_,h0⟩|⟨_,h0⟩:=itP h0
  ·exact run
  obtain⟨_,h0⟩:=ckP h0
  obtain⟨_,h0⟩:=ckP h0
  obtain⟨_,h0⟩:=ckP h0
  obtain⟨_,h0⟩:=ckP h0
  obtain⟨_,h0⟩|⟨_,h0⟩:=itP h0
  ·exact run
  obtain⟨a1,h0⟩:=ckP h0
  try simp(config:=cS)only[go_sem]at a1
  obtain⟨a2,h0⟩:=ckP h0
  try simp(config:=cS)only[go_sem]at a2
  obtain⟨a3,h0⟩:=ckP h0
  try simp(config:=cS)only[go_sem]at a3
  obtain⟨a4,h0⟩:=ckP h0
  try simp(config:=cS)only[go_sem]at a4
  exact run
 exact run⟩
instance k175 {s:GSimple}:Ctr (kC s) (fun (res:GGraph)=>ak prog 175 [.agg [.lit (.int .i64 s.events),.sl (ab GLink.enc s.links)]] [] (.agg [.lit (.int .i64 res.nodes),.ref 20000 1 0 res.edges.length]) [(20000,1,.row true (ab GEdge.enc res.edges))]):=⟨by
 intro res h0
 refine aB (ra:=[.homeCell 128 1]) (md:=mdT) hT (hi:=hi00) func175 rfl rfl (by decide +kernel) (by simp) ?_
 unfold kC at h0
 exact run⟩
@[go_sem] def qJ (v0:List GEdge)(f_v1:Nat)(k_v1:List AV)(v7 v8:Int):St:=⟨[(0,.sl (ab GEdge.enc v0)),(1,.fn f_v1 k_v1),(7,.lit (.int .i64 v7)),(8,.lit (.int .i64 v8))],[],2⟩
theorem tY {v0:List GEdge}{v1:GEdge→Option Bool}{f_v1:Nat}{k_v1:List AV}(hp_v1:∀ y0 r,v1 y0=some r→ak prog f_v1 ([.agg (GEdge.enc y0)]++k_v1) [] (.lit (.bool r)) [])(hc_v1:KC k_v1)(hm_v1:∀ a,mdT f_v1 a=⟨[],false⟩)(hk_v1:spf f_v1=false){res:Int}(h:eC v0 v1=some res):ak prog 344 [.sl (ab GEdge.enc v0),.fn f_v1 k_v1] [] (.lit (.int .i64 res)) []:=by
 refine co (hi:=hi00) func344 rfl rfl ?_
 unfold eC at h
 obtain⟨q03,l1,h⟩:=af h
 simp(config:=cS)only[go_sem,hc_v1.1,hc_v1.2,hm_v1,hk_v1]
 refine ah (m1:=.mk) (m2:=.mk) [.nf [0,1,7,8] []] (qJ v0 f_v1 k_v1 (v0.length:Int)) l1 ?_ ?_
 ·simp(config:=cS)only[go_sem,hc_v1.1,hc_v1.2,hm_v1,hk_v1]
 intro nb2 v8_1 bb2 b2 gb2
 unfold cp at b2
 try dsimp only at b2
 obtain⟨h3,b2⟩|⟨h3,b2⟩:=aP b2
 ·obtain⟨x01,g4,b2⟩:=af b2
  obtain⟨h5,h6,h7⟩:=dO g4
  obtain⟨r02,g8,b2⟩:=af b2
  simp(config:=cS)only[go_sem,hc_v1.1,hc_v1.2,hm_v1,hk_v1,eqT h3,h5,h6,h7]
  refine aj (hp_v1 _ _ g8) ?_
  obtain⟨h9,b2⟩|⟨h9,b2⟩:=aP b2
  ·cases b2
   obtain rfl:=(aD gb2).symm
   try dsimp only at h
   cases h
   simp(config:=cS)only[go_sem,hc_v1.1,hc_v1.2,hm_v1,hk_v1,eqT h3,h5,h6,h7,eZt h9]
  cases b2
  simp(config:=cS)only[go_sem,hc_v1.1,hc_v1.2,hm_v1,hk_v1,eqT h3,h5,h6,h7,eZf h9]
  refine fA gb2 ?_
  simp(config:=cS)only[go_sem,hc_v1.1,hc_v1.2,hm_v1,hk_v1,eqT h3,h5,h6,h7,eZf h9]
 cases b2
 obtain rfl:=(aD gb2).symm
 try dsimp only at h
 cases h
 simp(config:=cS)only[go_sem,hc_v1.1,hc_v1.2,hm_v1,hk_v1,eqF h3]
theorem sd {v0:List GEdge}{v1:GEdge→Option Bool}{f_v1:Nat}{k_v1:List AV}(hp_v1:∀ y0 r,v1 y0=some r→ak prog f_v1 ([.agg (GEdge.enc y0)]++k_v1) [] (.lit (.bool r)) [])(hc_v1:KC k_v1)(hm_v1:∀ a,mdT f_v1 a=⟨[],false⟩)(hk_v1:spf f_v1=false){res:Bool}(h:dm v0 v1=some res):ak prog 309 [.sl (ab GEdge.enc v0),.fn f_v1 k_v1] [] (.lit (.bool res)) []:=by
 refine co (hi:=hi00) func309 rfl rfl ?_
 unfold dm at h
 obtain⟨r01,g1,h⟩:=af h
 simp(config:=cS)only[go_sem,hc_v1.1,hc_v1.2,hm_v1,hk_v1]
 refine aj (tY hp_v1 hc_v1 hm_v1 hk_v1 g1) ?_
 cases h
 simp(config:=cS)only[go_sem,hc_v1.1,hc_v1.2,hm_v1,hk_v1]
instance k265 {n:Int}:Ctr (gC n) (fun (res:Bool)=>ak prog 265 [.lit (.int .i64 n)] [] (.lit (.bool res)) []):=⟨by
 intro res h0
 refine co (hi:=hi00) func265 rfl rfl ?_
 unfold gC at h0
 exact run⟩
instance k310 {e:GEdge} {g:GGraph}:Ctr (jU e g) (fun (res:Bool)=>ak prog 310 [.agg (GEdge.enc e),.loc [.lit (.int .i64 g.nodes),.sl (ab GEdge.enc g.edges)]] [] (.lit (.bool res)) []):=⟨by
 intro res h0
 refine co (hi:=hi00) func310 rfl rfl ?_
 unfold jU at h0
 exact run⟩
instance k258 {g:GGraph}:Ctr (iV g) (fun (res:Bool)=>ak prog 258 [.agg [.lit (.int .i64 g.nodes),.sl (ab GEdge.enc g.edges)]] [] (.lit (.bool res)) []):=⟨by
 intro res h0
 refine co (hi:=hi00) func258 rfl rfl ?_
 unfold iV at h0
 obtain⟨_,h0⟩|⟨_,h0⟩:=itP h0
 ·exact run
 obtain⟨_,h0⟩|⟨_,h0⟩:=itP h0
 ·exact run
 obtain⟨_,h0⟩|⟨_,h0⟩:=itP h0
 ·exact run
 obtain⟨r01,g0,h0⟩:=af h0
 simp(config:=cS)only[go_sem, *]
 refine aj (sd (by exact fun _ _ hr=>by have q:=ctr hr;exact q) (by refine⟨fun _=>?_,fun _=>?_⟩ <;> simp only[go_sem]) (fun _=>rfl) rfl g0) ?_
 exact run⟩
instance k313 {v0:Int} {y:Int}:Ctr (tE v0 y) (fun (res:Int × Int)=>ak prog 313 [.lit (.int .u64 v0),.lit (.int .u64 y)] [] (.tup [.lit (.int .u64 res.1),.lit (.int .u64 res.2)]) []):=⟨by
 intro res h0
 refine co (hi:=hi00) func313 rfl rfl ?_
 unfold tE at h0
 exact run⟩
instance k275 {v0:Int} {y:Int}:Ctr (jb v0 y) (fun (res:Int × Int)=>ak prog 275 [.lit (.int .u64 v0),.lit (.int .u64 y)] [] (.tup [.lit (.int .u64 res.1),.lit (.int .u64 res.2)]) []):=⟨by
 intro res h0
 refine co (hi:=hi00) func275 rfl rfl ?_
 unfold jb at h0
 exact run⟩
@[go_sem] def sG  : (Int × (List Int))→St
 | (v8,v7)=>⟨[(7,.ref 1920 1 0 v7.length),(8,.lit (.int .i64 v8))],[(1920,1,.row true (ab eI v7))],2⟩
@[go_sem] def hi200_9:DT:=.r2 0 10 .nil
def Iu:Hint where
 acts:=fun _=>[]
 draws:=fun
  | 9=>⟨hi200_9,[[],[],[],[1,2],[],[],[4,5],[1,2,3,4,5,6],.range 8,.range 9],.range 10⟩
  | _=>⟨.nil,[],[]⟩
theorem VI (i:Nat):Iu.acts i=[]:=rfl
theorem VJ (i:Nat):Iu.views i=none:=rfl
attribute[go_sem] VI VJ ntmps200 results200
@[go_sem] theorem ZH:(Iu.draws 9).order=hi200_9:=rfl
instance k200 {v0:List Int} {v1:Int}:Ctr (aI v0 v1) (fun (res:List Int)=>ak prog 200 [.sl (ab eI v0),.lit (.int .i64 v1)] [] (.ref 20000 1 0 res.length) [(20000,1,.row true (ab eI res))]):=⟨by
 intro res h0
 refine aB (ra:=[.home 4]) (md:=mdT) hT (hi:=Iu) func200 rfl rfl (by decide +kernel) (by simp) ?_
 unfold aI at h0
 obtain⟨_,h0⟩|⟨_,h0⟩:=itP h0
 ·exact run
 obtain⟨r01,g0,h0⟩:=af h0
 simp(config:=cS)only[go_sem, *]
 have g0:=ctr g0
 refine aj g0 ?_
 obtain⟨_,h0⟩|⟨_,h0⟩:=itP h0
 ·exact run
 obtain⟨_,h0⟩|⟨_,h0⟩:=itP h0
 ·exact run
 obtain⟨_,h0⟩:=ckP h0
 obtain⟨_,h0⟩:=ckP h0
 obtain⟨_,h0⟩:=ckP h0
 obtain⟨q02,l0,h0⟩:=af h0
 simp(config:=cS)only[go_sem, *]
 refine ah (m1:=.mk) (m2:=.mk) [.nf [7,8] [1920]] (sG) l0 ?_ ?_
 ·simp(config:=cS)only[go_sem, *]
 have k0:=h0
 clear h0 l0
 intro _ s0 _ h0 gb0
 obtain⟨v8_1,v7_1⟩:=s0
 unfold ao at h0
 try dsimp only at h0
 exact run⟩
@[go_sem] def se (zb0:Bool)  : (Int × Int × (List Int))→St
 | (v2,v3,v0)=>⟨[(0,.ref 10000 0 0 v0.length),(2,.lit (.int .i64 v2)),(3,.lit (.int .i64 v3))],[(10000,0,.row zb0 (ab eI v0))],2⟩
@[go_sem] def hi282_3:DT:=.r2 0 16 .nil
def Iv:Hint where
 acts:=fun _=>[]
 draws:=fun
  | 3=>⟨hi282_3,[[],[],[],[],[],[],[4,5],[4,5,6],[],[],[8,9],[8,9,10],[0,1,4,5,6,7,8,9,10,11],[0,1,4,5,6,7,8,9,10,11,12],.range 14,.range 15],[0,1,12,13,2,3,4,5,6,7,8,9,10,11,14,15]⟩
  | _=>⟨.nil,[],[]⟩
theorem VK (i:Nat):Iv.acts i=[]:=rfl
theorem VL (i:Nat):Iv.views i=none:=rfl
attribute[go_sem] VK VL ntmps282 results282
@[go_sem] theorem ZI:(Iv.draws 3).order=hi282_3:=rfl
theorem nr {v0:List Int}{zb0:Bool}{res:List Int}(h0:gD v0=some res):ak prog 282 [.ref 10000 0 0 v0.length] [(10000,0,.row zb0 (ab eI v0))] (.tup []) [(10000,0,.row zb0 (ab eI res))]:=by
 refine co (hi:=Iv) func282 rfl rfl ?_
 unfold gD at h0
 obtain⟨q04,l0,h0⟩:=af h0
 simp(config:=cS)only[go_sem, *]
 refine ah (m1:=.mk) (m2:=.mk) [.nf [0,2,3] [10000]] (se zb0) l0 ?_ ?_
 ·simp(config:=cS)only[go_sem, *]
 have k0:=h0
 clear h0 l0
 intro _ s0 _ h0 gb0
 obtain⟨v2_1,v3_1,v0_1⟩:=s0
 unfold eD at h0
 try dsimp only at h0
 exact run
@[go_sem] def jI (round:Int)(v31:List GEdge)(v32 g_0:Int):(Int × Int × (List Int) × (List Int))→St
 | (changed,v33,numbers,last)=>⟨[(1,.ptr 64 1 0 0),(3,.ref 1216 1 0 numbers.length),(4,.ref 1472 1 0 last.length),(5,.lit (.int .i64 changed)),(6,.lit (.int .i64 round)),(31,.sl (ab GEdge.enc v31)),(32,.lit (.int .i64 v32)),(33,.lit (.int .i64 v33))],[(64,1,.var [.lit (.int .i64 g_0),.sl (ab GEdge.enc v31)]),(1216,1,.row true (ab eI numbers)),(1472,1,.row true (ab eI last))],2⟩
@[go_sem] def jJ (g_0:Int)(g_1:List GEdge):(Int × Int × (List Int) × (List Int))→St
 | (changed,round,numbers,last)=>⟨[(1,.ptr 64 1 0 0),(3,.ref 1216 1 0 numbers.length),(4,.ref 1472 1 0 last.length),(5,.lit (.int .i64 changed)),(6,.lit (.int .i64 round))],[(64,1,.var [.lit (.int .i64 g_0),.sl (ab GEdge.enc g_1)]),(1216,1,.row true (ab eI numbers)),(1472,1,.row true (ab eI last))],2⟩
@[go_sem] def jK (g_0:Int)(g_1:List GEdge)(last:List Int):(Int × Int)→St
 | (node,i)=>⟨[(1,.ptr 64 1 0 0),(4,.ref 1472 1 0 last.length),(10,.lit (.int .i64 node)),(11,.lit (.int .i64 i))],[(64,1,.var [.lit (.int .i64 g_0),.sl (ab GEdge.enc g_1)]),(1472,1,.row true (ab eI last))],2⟩
@[go_sem] def jL (node g_0:Int)(g_1:List GEdge)(last:List Int):(Int × (List Int))→St
 | (at_,out)=>⟨[(1,.ptr 64 1 0 0),(4,.ref 1472 1 0 last.length),(10,.lit (.int .i64 node)),(12,.ref 831 1 0 out.length),(13,.lit (.int .i64 at_))],[(64,1,.var [.lit (.int .i64 g_0),.sl (ab GEdge.enc g_1)]),(1472,1,.row true (ab eI last)),(831,1,.row true (ab eI out))],2⟩
@[go_sem] def hi211_26:DT:=.r2 0 10 .nil
@[go_sem] def hi211_22:DT:=.r2 0 10 .nil
@[go_sem] def hi211_14:DT:=.r2 0 4 (.i1 4 (.i1 5 (.r2 6 4 (.i0 10 [4,5] (.r2 11 3 .nil)))))
@[go_sem] def hi211_12:DT:=.r2 0 9 .nil
@[go_sem] def hi211_3:DT:=.i1 0 (.i1 1 (.i1 4 (.i1 5 (.fork (.i0 2 [4,5] (.i0 3 [0,1,4,5] (.i0 6 [0,1] (.i2 7 (.i2 8 .nil))))) (.i0 3 [0,1,4,5] (.fork (.i0 2 [4,5] (.i0 6 [0,1] (.i2 7 (.i2 8 .nil)))) (.i0 6 [0,1] (.i0 2 [4,5] (.i2 7 (.i2 8 .nil))))))))))
def uq:Hint where
 acts:=fun _=>[]
 draws:=fun
  | 3=>⟨hi211_3,[[],[0],[0,1],[],[],[4],[3,4,5],.range 7,.range 8],.range 9⟩
  | 12=>⟨hi211_12,[[],[],[1],[0,1,2],[0,1,2,3],[],[5],.range 7,.range 8],.range 9⟩
  | 14=>⟨hi211_14,[[],[],[1],[],[],[4],[],[],[],[0,1,2,6],[0,1,2,6,9],[0,1,2,3,4,5,6,7,9,10],[0,1,2,3,4,5,6,7,9,10,11],.range 13],[0,1,2,6,7,8,3,9,12,4,5,10,11,13]⟩
  | 22=>⟨hi211_22,[[],[0],[],[],[2,3],[2,3,4],.range 6,.range 7,.range 8,.range 9],.range 10⟩
  | 26=>⟨hi211_26,[[],[0],[],[],[2,3],[2,3,4],.range 6,.range 7,.range 8,.range 9],.range 10⟩
  | _=>⟨.nil,[],[]⟩
theorem VM (i:Nat):uq.acts i=[]:=rfl
theorem VN (i:Nat):uq.views i=none:=rfl
attribute[go_sem] VM VN ntmps211 results211
@[go_sem] theorem ZJ:(uq.draws 3).order=hi211_3:=rfl
@[go_sem] theorem Ym:(uq.draws 12).order=hi211_12:=rfl
@[go_sem] theorem Yn:(uq.draws 14).order=hi211_14:=rfl
@[go_sem] theorem Yo:(uq.draws 22).order=hi211_22:=rfl
@[go_sem] theorem Yp:(uq.draws 26).order=hi211_26:=rfl
instance k211 {g:GGraph}:Ctr (gE g) (fun (res:Option (List Int))=>ak prog 211 [.agg [.lit (.int .i64 g.nodes),.sl (ab GEdge.enc g.edges)]] [] (match res with|none=>.lit (.slice none 0 0)|some l=>.ref 20000 1 0 l.length) (match res with|none=>[]|some l=>[(20000,1,.row true (ab eI l))])):=⟨by
 intro res h0
 refine co (hi:=uq) func211 rfl rfl ?_
 unfold gE at h0
 obtain⟨r01,g0,h0⟩:=af h0
 simp(config:=cS)only[go_sem, *]
 have g0:=ctr g0
 refine aj g0 ?_
 obtain⟨_,h0⟩|⟨_,h0⟩:=itB h0
 ·obtain⟨_,h0⟩:=ckP h0
  obtain⟨_,h0⟩:=ckP h0
  obtain⟨_,h0⟩:=ckP h0
  try simp(config:=cS)only[go_sem, *]
  refine gp ?_ ?_
  ·obtain⟨r02,g0,h0⟩:=af h0
   simp(config:=cS)only[go_sem, *]
   have g0:=ctr g0
   refine aj g0 ?_
   obtain⟨q18,l0,h0⟩:=af h0
   simp(config:=cS)only[go_sem, *]
   refine ah (m1:=.mk) (m2:=.mk) [.nf [1,3,4,5,6] [64,1216,1472]] (jJ g.nodes g.edges) l0 ?_ ?_
   ·simp(config:=cS)only[go_sem, *]
   have k0:=h0
   clear h0 l0
   intro _ s0 _ h0 gb0
   obtain⟨changed_1,round_1,numbers_1,last_1⟩:=s0
   unfold bI at h0
   try dsimp only at h0
   obtain⟨_,h0⟩|⟨_,h0⟩:=itP h0
   ·obtain⟨q07,l0,h0⟩:=af h0
    simp(config:=cS)only[go_sem, *]
    refine ah (m1:=.mk) (m2:=.mk) [.nf [1,3,4,5,6,31,32,33] [64,1216,1472]] (jI round_1 g.edges (g.edges.length:Int) g.nodes) l0 ?_ ?_
    ·simp(config:=cS)only[go_sem, *]
    have k0:=h0
    clear h0 l0
    intro _ s0 _ h0 gb0
    obtain⟨changed_2,v33_2,numbers_2,last_2⟩:=s0
    unfold bH at h0
    try dsimp only at h0
    exact run
   cases h0
   obtain rfl:=(aD gb0).symm
   clear gb0
   have h0:=k0
   clear k0
   try dsimp only at h0
   obtain⟨_,h0⟩|⟨_,h0⟩:=itP h0
   ·exact run
   obtain⟨x08,_,_,_,h0⟩:=gtI h0
   obtain⟨q17,l0,h0⟩:=af h0
   simp(config:=cS)only[go_sem, *]
   refine ah (m1:=.mk) (m2:=.mk) [.nf [1,4,10,11] [64,1472]] (jK g.nodes g.edges last_1) l0 ?_ ?_
   ·simp(config:=cS)only[go_sem, *]
   have k0:=h0
   clear h0 l0
   intro _ s0 _ h0 gb0
   obtain⟨node_3,i_3⟩:=s0
   unfold bJ at h0
   try dsimp only at h0
   obtain⟨_,h0⟩|⟨_,h0⟩:=itP h0
   ·exact run
   cases h0
   obtain rfl:=(aD gb0).symm
   clear gb0
   have h0:=k0
   clear k0
   try dsimp only at h0
   obtain⟨q16,l0,h0⟩:=af h0
   simp(config:=cS)only[go_sem, *]
   refine ah (m1:=.mk) (m2:=.mk) [.home 12,.nf [1,4,10,12,13] [64,1472,831]] (jL node_3 g.nodes g.edges last_1) l0 ?_ ?_
   ·simp(config:=cS)only[go_sem, *]
   have k0:=h0
   clear h0 l0
   intro _ s0 _ h0 gb0
   obtain⟨at__4,out_4⟩:=s0
   unfold bK at h0
   try dsimp only at h0
   obtain⟨_,h0⟩|⟨_,h0⟩:=itP h0
   ·exact run
   obtain⟨_,h0⟩|⟨_,h0⟩:=itP h0
   ·cases h0
    obtain rfl:=(aD gb0).symm
    clear gb0
    have h0:=k0
    clear k0
    try dsimp only at h0
    obtain⟨r13,g0,h0⟩:=af h0
    simp(config:=cS)only[go_sem, *]
    refine aj (nr g0) ?_
    exact run
   exact run
  try simp(config:=cS)only[go_sem, *]
  refine gp ?_ ?_
  ·obtain⟨r19,g0,h0⟩:=af h0
   simp(config:=cS)only[go_sem, *]
   have g0:=ctr g0
   refine aj g0 ?_
   obtain⟨q35,l0,h0⟩:=af h0
   simp(config:=cS)only[go_sem, *]
   refine ah (m1:=.mk) (m2:=.mk) [.nf [1,3,4,5,6] [64,1216,1472]] (jJ g.nodes g.edges) l0 ?_ ?_
   ·simp(config:=cS)only[go_sem, *]
   have k0:=h0
   clear h0 l0
   intro _ s0 _ h0 gb0
   obtain⟨changed_5,round_5,numbers_5,last_5⟩:=s0
   unfold bI at h0
   try dsimp only at h0
   obtain⟨_,h0⟩|⟨_,h0⟩:=itP h0
   ·obtain⟨q24,l0,h0⟩:=af h0
    simp(config:=cS)only[go_sem, *]
    refine ah (m1:=.mk) (m2:=.mk) [.nf [1,3,4,5,6,31,32,33] [64,1216,1472]] (jI round_5 g.edges (g.edges.length:Int) g.nodes) l0 ?_ ?_
    ·simp(config:=cS)only[go_sem, *]
    have k0:=h0
    clear h0 l0
    intro _ s0 _ h0 gb0
    obtain⟨changed_6,v33_6,numbers_6,last_6⟩:=s0
    unfold bH at h0
    try dsimp only at h0
    exact run
   cases h0
   obtain rfl:=(aD gb0).symm
   clear gb0
   have h0:=k0
   clear k0
   try dsimp only at h0
   obtain⟨_,h0⟩|⟨_,h0⟩:=itP h0
   ·exact run
   obtain⟨x25,_,_,_,h0⟩:=gtI h0
   obtain⟨q34,l0,h0⟩:=af h0
   simp(config:=cS)only[go_sem, *]
   refine ah (m1:=.mk) (m2:=.mk) [.nf [1,4,10,11] [64,1472]] (jK g.nodes g.edges last_5) l0 ?_ ?_
   ·simp(config:=cS)only[go_sem, *]
   have k0:=h0
   clear h0 l0
   intro _ s0 _ h0 gb0
   obtain⟨node_7,i_7⟩:=s0
   unfold bJ at h0
   try dsimp only at h0
   obtain⟨_,h0⟩|⟨_,h0⟩:=itP h0
   ·exact run
   cases h0
   obtain rfl:=(aD gb0).symm
   clear gb0
   have h0:=k0
   clear k0
   try dsimp only at h0
   obtain⟨q33,l0,h0⟩:=af h0
   simp(config:=cS)only[go_sem, *]
   refine ah (m1:=.mk) (m2:=.mk) [.home 12,.nf [1,4,10,12,13] [64,1472,831]] (jL node_7 g.nodes g.edges last_5) l0 ?_ ?_
   ·simp(config:=cS)only[go_sem, *]
   have k0:=h0
   clear h0 l0
   intro _ s0 _ h0 gb0
   obtain⟨at__8,out_8⟩:=s0
   unfold bK at h0
   try dsimp only at h0
   obtain⟨_,h0⟩|⟨_,h0⟩:=itP h0
   ·exact run
   obtain⟨_,h0⟩|⟨_,h0⟩:=itP h0
   ·cases h0
    obtain rfl:=(aD gb0).symm
    clear gb0
    have h0:=k0
    clear k0
    try dsimp only at h0
    obtain⟨r30,g0,h0⟩:=af h0
    simp(config:=cS)only[go_sem, *]
    refine aj (nr g0) ?_
    exact run
   exact run
  obtain⟨r36,g0,h0⟩:=af h0
  simp(config:=cS)only[go_sem, *]
  have g0:=ctr g0
  refine aj g0 ?_
  obtain⟨q52,l0,h0⟩:=af h0
  simp(config:=cS)only[go_sem, *]
  refine ah (m1:=.mk) (m2:=.mk) [.nf [1,3,4,5,6] [64,1216,1472]] (jJ g.nodes g.edges) l0 ?_ ?_
  ·simp(config:=cS)only[go_sem, *]
  have k0:=h0
  clear h0 l0
  intro _ s0 _ h0 gb0
  obtain⟨changed_9,round_9,numbers_9,last_9⟩:=s0
  unfold bI at h0
  try dsimp only at h0
  obtain⟨_,h0⟩|⟨_,h0⟩:=itP h0
  ·obtain⟨q41,l0,h0⟩:=af h0
   simp(config:=cS)only[go_sem, *]
   refine ah (m1:=.mk) (m2:=.mk) [.nf [1,3,4,5,6,31,32,33] [64,1216,1472]] (jI round_9 g.edges (g.edges.length:Int) g.nodes) l0 ?_ ?_
   ·simp(config:=cS)only[go_sem, *]
   have k0:=h0
   clear h0 l0
   intro _ s0 _ h0 gb0
   obtain⟨changed_10,v33_10,numbers_10,last_10⟩:=s0
   unfold bH at h0
   try dsimp only at h0
   exact run
  cases h0
  obtain rfl:=(aD gb0).symm
  clear gb0
  have h0:=k0
  clear k0
  try dsimp only at h0
  obtain⟨_,h0⟩|⟨_,h0⟩:=itP h0
  ·exact run
  obtain⟨x42,_,_,_,h0⟩:=gtI h0
  obtain⟨q51,l0,h0⟩:=af h0
  simp(config:=cS)only[go_sem, *]
  refine ah (m1:=.mk) (m2:=.mk) [.nf [1,4,10,11] [64,1472]] (jK g.nodes g.edges last_9) l0 ?_ ?_
  ·simp(config:=cS)only[go_sem, *]
  have k0:=h0
  clear h0 l0
  intro _ s0 _ h0 gb0
  obtain⟨node_11,i_11⟩:=s0
  unfold bJ at h0
  try dsimp only at h0
  obtain⟨_,h0⟩|⟨_,h0⟩:=itP h0
  ·exact run
  cases h0
  obtain rfl:=(aD gb0).symm
  clear gb0
  have h0:=k0
  clear k0
  try dsimp only at h0
  obtain⟨q50,l0,h0⟩:=af h0
  simp(config:=cS)only[go_sem, *]
  refine ah (m1:=.mk) (m2:=.mk) [.home 12,.nf [1,4,10,12,13] [64,1472,831]] (jL node_11 g.nodes g.edges last_9) l0 ?_ ?_
  ·simp(config:=cS)only[go_sem, *]
  have k0:=h0
  clear h0 l0
  intro _ s0 _ h0 gb0
  obtain⟨at__12,out_12⟩:=s0
  unfold bK at h0
  try dsimp only at h0
  obtain⟨_,h0⟩|⟨_,h0⟩:=itP h0
  ·exact run
  obtain⟨_,h0⟩|⟨_,h0⟩:=itP h0
  ·cases h0
   obtain rfl:=(aD gb0).symm
   clear gb0
   have h0:=k0
   clear k0
   try dsimp only at h0
   obtain⟨r47,g0,h0⟩:=af h0
   simp(config:=cS)only[go_sem, *]
   refine aj (nr g0) ?_
   exact run
  exact run
 exact run⟩
instance k108 {s:GSimple}:Ctr (eZ s) (fun (res:Bool)=>ak prog 108 [.agg [.lit (.int .i64 s.events),.sl (ab GLink.enc s.links)]] [] (.lit (.bool res)) []):=⟨by
 intro res h0
 refine co (hi:=hi00) func108 rfl rfl ?_
 unfold eZ at h0
 obtain⟨r01,g0,h0⟩:=af h0
 simp(config:=cS)only[go_sem, *]
 have g0:=ctr g0
 refine aj g0 ?_
 obtain⟨_,h0⟩|⟨_,h0⟩:=itB h0
 ·obtain⟨r02,g0,h0⟩:=af h0
  simp(config:=cS)only[go_sem, *]
  have g0:=ctr g0
  refine aj g0 ?_
  obtain⟨r03,g0,h0⟩:=af h0
  simp(config:=cS)only[go_sem, *]
  have g0:=ctr g0
  refine aj g0 ?_
  obtain⟨l1004,_,h0⟩|⟨_,h0⟩:=DE h0
  ·exact run
  exact run
 exact run⟩
@[go_sem] def ot (round:Int)(v36:List GEdge)(v37 g_0:Int):(Bool × Int × (List Int) × (List Bool))→St
 | (changed,v38,out,known)=>⟨[(2,.ptr 128 1 0 0),(6,.ref 1664 1 0 out.length),(7,.ref 1856 1 0 known.length),(8,.lit (.int .i64 round)),(9,.lit (.bool changed)),(36,.sl (ab GEdge.enc v36)),(37,.lit (.int .i64 v37)),(38,.lit (.int .i64 v38))],[(128,1,.var [.lit (.int .i64 g_0),.sl (ab GEdge.enc v36)]),(1664,1,.row true (ab eI out)),(1856,1,.row true (ab eB known))],2⟩
@[go_sem] def ou (g_0:Int)(g_1:List GEdge):(Int × (List Int) × (List Bool))→St
 | (round,out,known)=>⟨[(2,.ptr 128 1 0 0),(6,.ref 1664 1 0 out.length),(7,.ref 1856 1 0 known.length),(8,.lit (.int .i64 round))],[(128,1,.var [.lit (.int .i64 g_0),.sl (ab GEdge.enc g_1)]),(1664,1,.row true (ab eI out)),(1856,1,.row true (ab eB known))],2⟩
@[go_sem] def ov (v89:Int)(known:List Bool):(Int × (List Int))→St
 | (v90,out)=>⟨[(6,.ref 1664 1 0 out.length),(7,.ref 1856 1 0 known.length),(89,.lit (.int .i64 v89)),(90,.lit (.int .i64 v90))],[(1664,1,.row true (ab eI out)),(1856,1,.row true (ab eB known))],2⟩
@[go_sem] def hi259_13:DT:=.r2 0 4 (.i1 4 (.i1 5 (.i2 6 (.i2 7 (.i0 8 [4,5] (.r2 9 3 .nil))))))
@[go_sem] def hi259_11:DT:=.r2 0 9 .nil
@[go_sem] def hi259_3:DT:=.i1 0 (.i1 1 (.i1 3 (.i1 4 (.fork (.i0 2 [3,4] (.i2 6 (.i0 5 [0,1] (.i2 7 .nil)))) (.i0 5 [0,1] (.i0 2 [3,4] (.i2 6 (.i2 7 .nil))))))))
def Aj:Hint where
 acts:=fun _=>[]
 draws:=fun
  | 3=>⟨hi259_3,[[],[0],[0,1],[],[3],[3,4],[0,1,2],.range 7],.range 8⟩
  | 11=>⟨hi259_11,[[],[],[1],[0,1,2],[0,1,2,3],[],[5],.range 7,.range 8],.range 9⟩
  | 13=>⟨hi259_13,[[],[],[1],[],[],[4],[],[0,1,2,6],[0,1,2,6,7],.range 9,.range 10,.range 11],[0,1,2,6,7,8,3,4,5,9,10,11]⟩
  | _=>⟨.nil,[],[]⟩
theorem VO (i:Nat):Aj.acts i=[]:=rfl
theorem VP (i:Nat):Aj.views i=none:=rfl
attribute[go_sem] VO VP ntmps259 results259
@[go_sem] theorem ZK:(Aj.draws 3).order=hi259_3:=rfl
@[go_sem] theorem Yq:(Aj.draws 11).order=hi259_11:=rfl
@[go_sem] theorem Yr:(Aj.draws 13).order=hi259_13:=rfl
instance k259 {g:GGraph} {source:Int}:Ctr (cF g source) (fun (res:(List Int) × Bool)=>ak prog 259 [.agg [.lit (.int .i64 g.nodes),.sl (ab GEdge.enc g.edges)],.lit (.int .i64 source)] [] (.tup [.ref 20000 1 0 res.1.length,.lit (.bool res.2)]) [(20000,1,.row true (ab eI res.1))]):=⟨by
 intro res h0
 refine aB (ra:=[.home 4]) (md:=mdT) hT (hi:=Aj) func259 rfl rfl (by decide +kernel) (by simp) ?_
 unfold cF at h0
 obtain⟨r01,g0,h0⟩:=af h0
 simp(config:=cS)only[go_sem, *]
 have g0:=ctr g0
 refine aj g0 ?_
 obtain⟨_,h0⟩|⟨_,h0⟩:=itB h0
 ·obtain⟨r02,g0,h0⟩:=af h0
  simp(config:=cS)only[go_sem, *]
  have g0:=ctr g0
  refine aj g0 ?_
  obtain⟨_,h0⟩|⟨_,h0⟩:=itB h0
  ·obtain⟨_,h0⟩:=ckP h0
   obtain⟨_,h0⟩:=ckP h0
   obtain⟨_,h0⟩:=ckP h0
   obtain⟨_,h0⟩:=ckP h0
   try simp(config:=cS)only[go_sem, *]
   refine gp ?_ ?_
   ·obtain⟨x03,_,_,_,h0⟩:=gtI h0
    obtain⟨q16,l0,h0⟩:=af h0
    simp(config:=cS)only[go_sem, *]
    refine ah (m1:=.mk) (m2:=.mk) [.nf [2,6,7,8] [128,1664,1856]] (ou g.nodes g.edges) l0 ?_ ?_
    ·simp(config:=cS)only[go_sem, *]
    have k0:=h0
    clear h0 l0
    intro _ s0 _ h0 gb0
    obtain⟨round_1,out_1,known_1⟩:=s0
    unfold bc at h0
    try dsimp only at h0
    obtain⟨q15,l0,h0⟩:=af h0
    simp(config:=cS)only[go_sem, *]
    refine ah (m1:=.mk) (m2:=.mk) [.nf [2,6,7,8,9,36,37,38] [128,1664,1856]] (ot round_1 g.edges (g.edges.length:Int) g.nodes) l0 ?_ ?_
    ·simp(config:=cS)only[go_sem, *]
    have k0:=h0
    clear h0 l0
    intro _ s0 _ h0 gb0
    obtain⟨changed_2,v38_2,out_2,known_2⟩:=s0
    unfold cz at h0
    try dsimp only at h0
    obtain⟨_,h0⟩|⟨_,h0⟩:=itP h0
    ·exact run
    cases h0
    obtain rfl:=(aD gb0).symm
    clear gb0
    have h0:=k0
    clear k0
    try dsimp only at h0
    obtain⟨_,h0⟩|⟨_,h0⟩:=itB h0
    ·exact run
    cases h0
    obtain rfl:=(aD gb0).symm
    clear gb0
    have h0:=k0
    clear k0
    try dsimp only at h0
    obtain⟨q14,l0,h0⟩:=af h0
    simp(config:=cS)only[go_sem, *]
    refine ah (m1:=.mk) (m2:=.mk) [.nf [6,7,89,90] [1664,1856]] (ov (out_2.length:Int) known_2) l0 ?_ ?_
    ·simp(config:=cS)only[go_sem, *]
    have k0:=h0
    clear h0 l0
    intro _ s0 _ h0 gb0
    obtain⟨v90_3,out_3⟩:=s0
    unfold bT at h0
    try dsimp only at h0
    exact run
   obtain⟨x17,_,_,_,h0⟩:=gtI h0
   obtain⟨q30,l0,h0⟩:=af h0
   simp(config:=cS)only[go_sem, *]
   refine ah (m1:=.mk) (m2:=.mk) [.nf [2,6,7,8] [128,1664,1856]] (ou g.nodes g.edges) l0 ?_ ?_
   ·simp(config:=cS)only[go_sem, *]
   have k0:=h0
   clear h0 l0
   intro _ s0 _ h0 gb0
   obtain⟨round_4,out_4,known_4⟩:=s0
   unfold bc at h0
   try dsimp only at h0
   obtain⟨q29,l0,h0⟩:=af h0
   simp(config:=cS)only[go_sem, *]
   refine ah (m1:=.mk) (m2:=.mk) [.nf [2,6,7,8,9,36,37,38] [128,1664,1856]] (ot round_4 g.edges (g.edges.length:Int) g.nodes) l0 ?_ ?_
   ·simp(config:=cS)only[go_sem, *]
   have k0:=h0
   clear h0 l0
   intro _ s0 _ h0 gb0
   obtain⟨changed_5,v38_5,out_5,known_5⟩:=s0
   unfold cz at h0
   try dsimp only at h0
   obtain⟨_,h0⟩|⟨_,h0⟩:=itP h0
   ·exact run
   cases h0
   obtain rfl:=(aD gb0).symm
   clear gb0
   have h0:=k0
   clear k0
   try dsimp only at h0
   obtain⟨_,h0⟩|⟨_,h0⟩:=itB h0
   ·exact run
   cases h0
   obtain rfl:=(aD gb0).symm
   clear gb0
   have h0:=k0
   clear k0
   try dsimp only at h0
   obtain⟨q28,l0,h0⟩:=af h0
   simp(config:=cS)only[go_sem, *]
   refine ah (m1:=.mk) (m2:=.mk) [.nf [6,7,89,90] [1664,1856]] (ov (out_5.length:Int) known_5) l0 ?_ ?_
   ·simp(config:=cS)only[go_sem, *]
   have k0:=h0
   clear h0 l0
   intro _ s0 _ h0 gb0
   obtain⟨v90_6,out_6⟩:=s0
   unfold bT at h0
   try dsimp only at h0
   exact run
  exact run
 exact run⟩
instance k260 {n:Int}:Ctr (jV n) (fun (res:Int)=>ak prog 260 [.lit (.int .i64 n)] [] (.lit (.int .i64 res)) []):=⟨by
 intro res h0
 refine co (hi:=hi00) func260 rfl rfl ?_
 unfold jV at h0
 exact run⟩
@[go_sem] def tZ (i v33 g_0:Int)(g_1:List GEdge)(v32:List Int):(Int × (List Int))→St
 | (v34,h100016385)=>⟨[(1,.ptr 64 1 0 0),(2,.ptr 128 1 0 0),(4,.ptr 256 1 0 0),(5,.lit (.int .i64 i)),(32,.ref 1664 1 0 v32.length),(33,.lit (.int .i64 v33)),(34,.lit (.int .i64 v34))],[(64,1,.var [.lit (.int .i64 g_0),.sl (ab GEdge.enc g_1)]),(128,1,.var [.lit (.int .i64 0),.lit (.slice none 0 0)]),(256,1,.var [.lit (.int .i64 g_0),.ref 100016385 1 0 h100016385.length]),(100016385,1,.row true (ab eI h100016385)),(1664,1,.row true (ab eI v32))],2⟩
@[go_sem] def ua (g_0:Int)(g_1:List GEdge):(Int × (List Int))→St
 | (i,h100016385)=>⟨[(1,.ptr 64 1 0 0),(2,.ptr 128 1 0 0),(4,.ptr 256 1 0 0),(5,.lit (.int .i64 i))],[(64,1,.var [.lit (.int .i64 g_0),.sl (ab GEdge.enc g_1)]),(128,1,.var [.lit (.int .i64 0),.lit (.slice none 0 0)]),(256,1,.var [.lit (.int .i64 g_0),.ref 100016385 1 0 h100016385.length]),(100016385,1,.row true (ab eI h100016385))],2⟩
@[go_sem] def hi174_13:DT:=.i1 0 (.i1 1 (.i2 2 (.i0 3 [0,1] (.i0 4 [0,1] (.r2 5 3 .nil)))))
def Iw:Hint where
 acts:=fun _=>[]
 draws:=fun
  | 13=>⟨hi174_13,[[],[0],[],[2],[2,3],.range 5,.range 6,.range 7],.range 8⟩
  | _=>⟨.nil,[],[]⟩
theorem VQ (i:Nat):Iw.acts i=[]:=rfl
theorem VR (i:Nat):Iw.views i=none:=rfl
attribute[go_sem] VQ VR ntmps174 results174
@[go_sem] theorem Ys:(Iw.draws 13).order=hi174_13:=rfl
instance k174 {g:GGraph}:Ctr (jW g) (fun (res:aw × Bool)=>ak prog 174 [.agg [.lit (.int .i64 g.nodes),.sl (ab GEdge.enc g.edges)]] [] (.tup [.agg [.lit (.int .i64 res.1.size),.ref 20000 1 0 res.1.cells.length],.lit (.bool res.2)]) [(20000,1,.row true (ab eI res.1.cells))]):=⟨by
 intro res h0
 refine aB (ra:=[.homeCell 128 1]) (md:=mdT) hT (hi:=Iw) func174 rfl rfl (by decide +kernel) (by simp) ?_
 unfold jW at h0
 obtain⟨r01,g0,h0⟩:=af h0
 simp(config:=cS)only[go_sem, *]
 have g0:=ctr g0
 refine aj g0 ?_
 obtain⟨_,h0⟩|⟨_,h0⟩:=itB h0
 ·obtain⟨q06,l0,h0⟩:=af h0
  simp(config:=cS)only[go_sem, *]
  refine ah (m1:=.mk) (m2:=.mk) [.homeCell 256 1,.nf [1,2,4,5] [64,128,256,100016385]] (ua g.nodes g.edges) l0 ?_ ?_
  ·simp(config:=cS)only[go_sem, *]
  have k0:=h0
  clear h0 l0
  intro _ s0 _ h0 gb0
  obtain⟨i_1,h100016385_1⟩:=s0
  unfold ko at h0
  try dsimp only at h0
  obtain⟨_,h0⟩|⟨_,h0⟩:=itP h0
  ·obtain⟨r02,g0,h0⟩:=af h0
   simp(config:=cS)only[go_sem, *]
   have g0:=ctr g0
   refine aj g0 ?_
   obtain⟨_,h0⟩|⟨_,h0⟩:=itB h0
   ·obtain⟨q05,l0,h0⟩:=af h0
    simp(config:=cS)only[go_sem, *]
    refine ah (m1:=.mk) (m2:=.mk) [.homeCell 256 1,.nf [1,2,4,5,32,33,34] [64,128,256,100016385,1664]] (tZ i_1 (r02.1.length:Int) g.nodes g.edges r02.1) l0 ?_ ?_
    ·simp(config:=cS)only[go_sem, *]
    have k0:=h0
    clear h0 l0
    intro _ s0 _ h0 gb0
    obtain⟨v34_2,h100016385_2⟩:=s0
    unfold kl at h0
    try dsimp only at h0
    exact run
   exact run
  exact run
 exact run⟩
@[go_sem] def wL (v25:List Int)(v26 t_0 v27:Int):St:=⟨[(1,.ptr 64 1 0 0),(25,.sl (ab eI v25)),(26,.lit (.int .i64 v26)),(27,.lit (.int .i64 v27))],[(64,1,.var [.lit (.int .i64 t_0),.sl (ab eI v25)])],2⟩
@[go_sem] def hi262_6:DT:=.r2 0 21 .nil
def Ix:Hint where
 acts:=fun _=>[]
 draws:=fun
  | 6=>⟨hi262_6,[[],[0],[0,1],[0,1,2],[0,1,2,3],.range 5,.range 6,.range 7,.range 7,[0,1,2,3,4,5,6,8],.range 10,.range 7,.range 7,[0,1,2,3,4,5,6,12],[0,1,2,3,4,5,6,11,12,13],.range 15,.range 16,.range 17,.range 18,.range 19,.range 20],.range 21⟩
  | _=>⟨.nil,[],[]⟩
theorem VS (i:Nat):Ix.acts i=[]:=rfl
theorem VT (i:Nat):Ix.views i=none:=rfl
attribute[go_sem] VS VT ntmps262 results262
@[go_sem] theorem ZL:(Ix.draws 6).order=hi262_6:=rfl
instance k262 {t:aw}:Ctr (mR t) (fun (res:Bool)=>ak prog 262 [.agg [.lit (.int .i64 t.size),.sl (ab eI t.cells)]] [] (.lit (.bool res)) []):=⟨by
 intro res h0
 refine co (hi:=Ix) func262 rfl rfl ?_
 unfold mR at h0
 obtain⟨_,h0⟩|⟨_,h0⟩:=itP h0
 ·exact run
 obtain⟨_,h0⟩|⟨_,h0⟩:=itP h0
 ·exact run
 obtain⟨_,h0⟩|⟨_,h0⟩:=itP h0
 ·obtain⟨q02,l0,h0⟩:=af h0
  simp(config:=cS)only[go_sem, *]
  refine ah (m1:=.mk) (m2:=.mk) [.nf [1,25,26,27] [64]] (wL t.cells (t.cells.length:Int) t.size) l0 ?_ ?_
  ·simp(config:=cS)only[go_sem, *]
  have k0:=h0
  clear h0 l0
  intro _ v27_1 _ h0 gb0
  unfold ia at h0
  try dsimp only at h0
  exact run
 exact run⟩
instance k264 {t:aw} {i:Int} {k:Int}:Ctr (jX t i k) (fun (res:Int)=>ak prog 264 [.agg [.lit (.int .i64 t.size),.sl (ab eI t.cells)],.lit (.int .i64 i),.lit (.int .i64 k)] [] (.lit (.int .i64 res)) []):=⟨by
 intro res h0
 refine co (hi:=hi00) func264 rfl rfl ?_
 unfold jX at h0
 exact run⟩
instance k263 {i:am} {ok:Bool}:Ctr (oW i ok) (fun (res:am × Bool)=>ak prog 263 [.agg [.lit (.int .i64 i.low),.lit (.int .i64 i.high)],.lit (.bool ok)] [] (.tup [.agg [.lit (.int .i64 res.1.low),.lit (.int .i64 res.1.high)],.lit (.bool res.2)]) []):=⟨by
 intro res h0
 refine co (hi:=hi00) func263 rfl rfl ?_
 unfold oW at h0
 exact run⟩
@[go_sem] def hi176_3:DT:=.r2 0 3 (.i1 5 (.i2 6 (.i2 7 (.i0 3 [5] (.i2 4 (.r2 8 7 .nil))))))
def Iy:Hint where
 acts:=fun _=>[]
 draws:=fun
  | 3=>⟨hi176_3,[[],[],[],[0,1,2],[0,1,2,3],[],[],[],[0,1,2,3,5,6,7],.range 9,.range 10,.range 11,.range 11,.range 13,.range 14],.range 15⟩
  | _=>⟨.nil,[],[]⟩
theorem VU (i:Nat):Iy.acts i=[]:=rfl
theorem VV (i:Nat):Iy.views i=none:=rfl
attribute[go_sem] VU VV ntmps176 results176
@[go_sem] theorem ZM:(Iy.draws 3).order=hi176_3:=rfl
instance k176 {t:aw} {i:Int} {k:Int}:Ctr (gF t i k) (fun (res:am × Bool)=>ak prog 176 [.agg [.lit (.int .i64 t.size),.sl (ab eI t.cells)],.lit (.int .i64 i),.lit (.int .i64 k)] [] (.tup [.agg [.lit (.int .i64 res.1.low),.lit (.int .i64 res.1.high)],.lit (.bool res.2)]) []):=⟨by
 intro res h0
 refine co (hi:=Iy) func176 rfl rfl ?_
 unfold gF at h0
 exact run⟩
instance k70 {s:GSimple} {event:Int}:Ctr (lS s event) (fun (res:am × Bool)=>ak prog 70 [.agg [.lit (.int .i64 s.events),.sl (ab GLink.enc s.links)],.lit (.int .i64 event)] [] (.tup [.agg [.lit (.int .i64 res.1.low),.lit (.int .i64 res.1.high)],.lit (.bool res.2)]) []):=⟨by
 intro res h0
 refine co (hi:=hi00) func70 rfl rfl ?_
 unfold lS at h0
 exact run⟩
@[go_sem] def xR (f_f:Nat)(k_f:List AV)(s_0:Int)(s_1:List GLink):(Int × (List Int))→St
 | (event,out)=>⟨[(1,.fn f_f k_f),(2,.ptr 128 1 0 0),(6,.ref 447 1 0 out.length),(7,.lit (.int .i64 event))],[(128,1,.var [.lit (.int .i64 s_0),.sl (ab GLink.enc s_1)]),(447,1,.row true (ab eI out))],2⟩
theorem Hi {s:GSimple}{f:am→Option Int}{f_f:Nat}{k_f:List AV}(hp_f:∀ y0 r,f y0=some r→ak prog f_f ([.agg [.lit (.int .i64 y0.low),.lit (.int .i64 y0.high)]]++k_f) [] (.lit (.int .i64 r)) [])(hc_f:KC k_f)(hm_f:∀ a,mdT f_f a=⟨[],false⟩)(hk_f:spf f_f=false){res:(List Int) × Bool}(h:pJ s f=some res):ak prog 185 [.agg [.lit (.int .i64 s.events),.sl (ab GLink.enc s.links)],.fn f_f k_f] [] (.tup [.ref 20000 1 0 res.1.length,.lit (.bool res.2)]) [(20000,1,.row true (ab eI res.1))]:=by
 refine aB (ra:=[.home 4]) (md:=mdT) hT (hi:=hi00) func185 rfl rfl (by decide +kernel) (by simp) ?_
 unfold pJ at h
 obtain⟨r01,g1,h⟩:=af h
 simp(config:=cS)only[go_sem,hc_f.1,hc_f.2,hm_f,hk_f]
 have g1:=ctr g1
 refine aj g1 ?_
 obtain⟨h2,h⟩|⟨h2,h⟩:=aP h
 ·obtain⟨q06,l3,h⟩:=af h
  simp(config:=cS)only[go_sem,hc_f.1,hc_f.2,hm_f,hk_f,eZt h2]
  refine ah (m1:=.mk) (m2:=.mk) [.home 6,.nf [1,2,6,7] [128,447]] (xR f_f k_f s.events s.links) l3 ?_ ?_
  ·simp(config:=cS)only[go_sem,hc_f.1,hc_f.2,hm_f,hk_f,eZt h2]
  intro nb4 sb4 bb4 b4 gb4
  obtain⟨event_1,out_1⟩:=sb4
  unfold lc at b4
  try dsimp only at b4
  obtain⟨h5,b4⟩|⟨h5,b4⟩:=aP b4
  ·obtain⟨r02,g6,b4⟩:=af b4
   simp(config:=cS)only[go_sem,hc_f.1,hc_f.2,hm_f,hk_f,eZt h2,eqT h5]
   have g6:=ctr g6
   refine aj g6 ?_
   obtain⟨h7,b4⟩|⟨h7,b4⟩:=aP b4
   ·obtain⟨r03,g8,b4⟩:=af b4
    simp(config:=cS)only[go_sem,hc_f.1,hc_f.2,hm_f,hk_f,eZt h2,eqT h5,eZt h7]
    refine aj (hp_f _ _ g8) ?_
    obtain⟨r04,g9,b4⟩:=af b4
    simp(config:=cS)only[go_sem,hc_f.1,hc_f.2,hm_f,hk_f,eZt h2,eqT h5,eZt h7]
    have g9:=ctr g9
    refine aj g9 ?_
    obtain⟨h10,b4⟩|⟨h10,b4⟩:=aP b4
    ·obtain⟨r05,g11,b4⟩:=af b4
     simp(config:=cS)only[go_sem,hc_f.1,hc_f.2,hm_f,hk_f,eZt h2,eqT h5,eZt h7,eZt h10]
     refine aj (hp_f _ _ g11) ?_
     obtain⟨h12,b4⟩:=fq b4
     obtain⟨h13,b4⟩:=fq b4
     cases b4
     simp(config:=cS)only[go_sem,hc_f.1,hc_f.2,hm_f,hk_f,eZt h2,eqT h5,eZt h7,eZt h10,eqT h12,eqT h13]
     refine fA gb4 ?_
     simp(config:=cS)only[go_sem,hc_f.1,hc_f.2,hm_f,hk_f,eZt h2,eqT h5,eZt h7,eZt h10,eqT h12,eqT h13]
    cases b4
    obtain rfl:=(aD gb4).symm
    try dsimp only at h
    cases h
    simp(config:=cS)only[go_sem,hc_f.1,hc_f.2,hm_f,hk_f,eZt h2,eqT h5,eZt h7,eZf h10]
   cases b4
   obtain rfl:=(aD gb4).symm
   try dsimp only at h
   cases h
   simp(config:=cS)only[go_sem,hc_f.1,hc_f.2,hm_f,hk_f,eZt h2,eqT h5,eZf h7]
  cases b4
  obtain rfl:=(aD gb4).symm
  try dsimp only at h
  cases h
  simp(config:=cS)only[go_sem,hc_f.1,hc_f.2,hm_f,hk_f,eZt h2,eqF h5]
 cases h
 simp(config:=cS)only[go_sem,hc_f.1,hc_f.2,hm_f,hk_f,eZf h2]
instance k186 {i:am}:Ctr (df i) (fun (res:Int)=>ak prog 186 [.agg [.lit (.int .i64 i.low),.lit (.int .i64 i.high)]] [] (.lit (.int .i64 res)) []):=⟨by
 intro res h0
 refine co (hi:=hi00) func186 rfl rfl ?_
 unfold df at h0
 exact run⟩
instance k82 {s:GSimple}:Ctr (gG s) (fun (res:(List Int) × Bool)=>ak prog 82 [.agg [.lit (.int .i64 s.events),.sl (ab GLink.enc s.links)]] [] (.tup [.ref 20000 1 0 res.1.length,.lit (.bool res.2)]) [(20000,1,.row true (ab eI res.1))]):=⟨by
 intro res h0
 refine aB (ra:=[.home 2]) (md:=mdT) hT (hi:=hi00) func82 rfl rfl (by decide +kernel) (by simp) ?_
 unfold gG at h0
 obtain⟨r01,g0,h0⟩:=af h0
 simp(config:=cS)only[go_sem, *]
 refine aj (Hi (by exact fun _ _ hr=>by have q:=ctr hr;exact q) (by refine⟨fun _=>?_,fun _=>?_⟩ <;> simp only[go_sem]) (fun _=>rfl) rfl g0) ?_
 exact run⟩
@[go_sem] def tC (v24:Int)(s_0:List GNode)(s_1:List GTie)(s_2:Int):(Int × (List Int))→St
 | (v25,v23)=>⟨[(1,.ptr 64 1 0 0),(6,.ref 1152 1 0 v23.length),(23,.ref 1152 1 0 v23.length),(24,.lit (.int .i64 v24)),(25,.lit (.int .i64 v25))],[(64,1,.var [.sl (ab GNode.encS s_0),.sl (ab GTie.enc s_1),.lit (.int .i64 s_2)]),(1152,1,.row true (ab eI v23))],2⟩
instance k23 {s:GShow}:Ctr (js s) (fun (res:(List Int) × Bool)=>ak prog 23 [.agg (GShow.encS s)] [] (.tup [.ref 20000 1 0 res.1.length,.lit (.bool res.2)]) [(20000,1,.row true (ab eI res.1))]):=⟨by
 intro res h0
 refine aB (ra:=[.home 2]) (md:=mdT) hT (hi:=hi00) func23 rfl rfl (by decide +kernel) (by simp) ?_
 unfold js at h0
 obtain⟨r01,g0,h0⟩:=af h0
 simp(config:=cS)only[go_sem, *]
 have g0:=ctr g0
 refine aj g0 ?_
 obtain⟨_,h0⟩|⟨_,h0⟩:=itB h0
 ·obtain⟨r02,g0,h0⟩:=af h0
  simp(config:=cS)only[go_sem, *]
  have g0:=ctr g0
  refine aj g0 ?_
  obtain⟨_,h0⟩|⟨_,h0⟩:=itB h0
  ·obtain⟨q05,l0,h0⟩:=af h0
   simp(config:=cS)only[go_sem, *]
   refine ah (m1:=.mk) (m2:=.mk) [.nf [1,6,23,24,25] [64,1152]] (tC (r02.1.length:Int) s.nodes s.ties s.horizon) l0 ?_ ?_
   ·simp(config:=cS)only[go_sem, *]
   have k0:=h0
   clear h0 l0
   intro _ s0 _ h0 gb0
   obtain⟨v25_1,v23_1⟩:=s0
   unfold fZ at h0
   try dsimp only at h0
   exact run
  exact run
 exact run⟩
instance k29 {s:GShow}:Ctr (lT s) (fun (res:Bool)=>ak prog 29 [.agg (GShow.encS s)] [] (.lit (.bool res)) []):=⟨by
 intro res h0
 refine co (hi:=hi00) func29 rfl rfl ?_
 unfold lT at h0
 exact run⟩
@[go_sem] def hi98_3:DT:=.i1 1 (.i1 2 (.i1 3 (.fork (.i0 0 [1,2,3] (.fork (.i2 4 (.fork (.i0 5 [1,2,3] (.i2 6 (.i0 7 [1,2,3] (.i2 8 .nil)))) (.i0 7 [1,2,3] (.i0 5 [1,2,3] (.i2 6 (.i2 8 .nil)))))) (.fork (.i0 5 [1,2,3] (.fork (.i2 4 (.i2 6 (.i0 7 [1,2,3] (.i2 8 .nil)))) (.i0 7 [1,2,3] (.i2 4 (.i2 6 (.i2 8 .nil)))))) (.i0 7 [1,2,3] (.fork (.i2 4 (.i0 5 [1,2,3] (.i2 6 (.i2 8 .nil)))) (.i0 5 [1,2,3] (.i2 4 (.i2 6 (.i2 8 .nil))))))))) (.fork (.i0 5 [1,2,3] (.fork (.i0 0 [1,2,3] (.fork (.i2 4 (.i2 6 (.i0 7 [1,2,3] (.i2 8 .nil)))) (.i0 7 [1,2,3] (.i2 4 (.i2 6 (.i2 8 .nil)))))) (.i0 7 [1,2,3] (.i0 0 [1,2,3] (.i2 4 (.i2 6 (.i2 8 .nil))))))) (.i0 7 [1,2,3] (.fork (.i0 0 [1,2,3] (.fork (.i2 4 (.i0 5 [1,2,3] (.i2 6 (.i2 8 .nil)))) (.i0 5 [1,2,3] (.i2 4 (.i2 6 (.i2 8 .nil)))))) (.i0 5 [1,2,3] (.i0 0 [1,2,3] (.i2 4 (.i2 6 (.i2 8 .nil)))))))))))
def hi98:Hint where
 acts:=fun _=>[]
 draws:=fun
  | 3=>⟨hi98_3,[[],[],[1],[1,2],[0,1,2,3],[],.range 6,[],.range 8],.range 9⟩
  | _=>⟨.nil,[],[]⟩
theorem Xx (i:Nat):hi98.acts i=[]:=rfl
theorem Xy (i:Nat):hi98.views i=none:=rfl
attribute[go_sem] Xx Xy ntmps98 results98
@[go_sem] theorem aax:(hi98.draws 3).order=hi98_3:=rfl
instance k98 {s:GShow}:Ctr (jY s) (fun (res:GState)=>ak prog 98 [.agg (GShow.encS s)] [] (.agg [.lit (.int .i64 res.now),.ref 20000 1 0 res.times.length,.ref 20001 1 0 res.values.length]) [(20000,1,.row true (ab eI res.times)),(20001,1,.row true (ab eI res.values))]):=⟨by
 intro res h0
 refine aB (ra:=[.homeCell 128 1,.homeCell 128 2]) (md:=mdT) hT (hi:=hi98) func98 rfl rfl (by decide +kernel) (by simp) ?_
 unfold jY at h0
 obtain⟨r01,g0,h0⟩:=af h0
 simp(config:=cS)only[go_sem, *]
 have g0:=ctr g0
 refine aj g0 ?_
 obtain⟨_,h0⟩|⟨_,h0⟩:=itB h0
 ·try simp(config:=cS)only[go_sem, *]
  refine gp ?_ ?_
  ·try simp(config:=cS)only[go_sem, *]
   refine gp ?_ ?_
   ·obtain⟨r02,g0,h0⟩:=af h0
    simp(config:=cS)only[go_sem, *]
    have g0:=ctr g0
    refine aj g0 ?_
    try simp(config:=cS)only[go_sem, *]
    refine gp ?_ ?_
    ·obtain⟨x03,g1,h0⟩:=af h0
     have:=fv (k:=0) g1
     exact run
    obtain⟨x04,g2,h0⟩:=af h0
    have:=fv (k:=0) g2
    exact run
   try simp(config:=cS)only[go_sem, *]
   refine gp ?_ ?_
   ·try simp(config:=cS)only[go_sem, *]
    refine gp ?_ ?_
    ·obtain⟨r05,g0,h0⟩:=af h0
     simp(config:=cS)only[go_sem, *]
     have g0:=ctr g0
     refine aj g0 ?_
     obtain⟨x06,g3,h0⟩:=af h0
     have:=fv (k:=0) g3
     exact run
    obtain⟨r07,g0,h0⟩:=af h0
    simp(config:=cS)only[go_sem, *]
    have g0:=ctr g0
    refine aj g0 ?_
    obtain⟨x08,g4,h0⟩:=af h0
    have:=fv (k:=0) g4
    exact run
   try simp(config:=cS)only[go_sem, *]
   refine gp ?_ ?_
   ·obtain⟨r09,g0,h0⟩:=af h0
    simp(config:=cS)only[go_sem, *]
    have g0:=ctr g0
    refine aj g0 ?_
    obtain⟨x10,g5,h0⟩:=af h0
    have:=fv (k:=0) g5
    exact run
   obtain⟨r11,g0,h0⟩:=af h0
   simp(config:=cS)only[go_sem, *]
   have g0:=ctr g0
   refine aj g0 ?_
   obtain⟨x12,g6,h0⟩:=af h0
   have:=fv (k:=0) g6
   exact run
  try simp(config:=cS)only[go_sem, *]
  refine gp ?_ ?_
  ·try simp(config:=cS)only[go_sem, *]
   refine gp ?_ ?_
   ·try simp(config:=cS)only[go_sem, *]
    refine gp ?_ ?_
    ·obtain⟨r13,g0,h0⟩:=af h0
     simp(config:=cS)only[go_sem, *]
     have g0:=ctr g0
     refine aj g0 ?_
     obtain⟨x14,g7,h0⟩:=af h0
     have:=fv (k:=0) g7
     exact run
    obtain⟨r15,g0,h0⟩:=af h0
    simp(config:=cS)only[go_sem, *]
    have g0:=ctr g0
    refine aj g0 ?_
    obtain⟨x16,g8,h0⟩:=af h0
    have:=fv (k:=0) g8
    exact run
   obtain⟨r17,g0,h0⟩:=af h0
   simp(config:=cS)only[go_sem, *]
   have g0:=ctr g0
   refine aj g0 ?_
   obtain⟨x18,g9,h0⟩:=af h0
   have:=fv (k:=0) g9
   exact run
  try simp(config:=cS)only[go_sem, *]
  refine gp ?_ ?_
  ·try simp(config:=cS)only[go_sem, *]
   refine gp ?_ ?_
   ·obtain⟨r19,g0,h0⟩:=af h0
    simp(config:=cS)only[go_sem, *]
    have g0:=ctr g0
    refine aj g0 ?_
    obtain⟨x20,g10,h0⟩:=af h0
    have:=fv (k:=0) g10
    exact run
   obtain⟨r21,g0,h0⟩:=af h0
   simp(config:=cS)only[go_sem, *]
   have g0:=ctr g0
   refine aj g0 ?_
   obtain⟨x22,g11,h0⟩:=af h0
   have:=fv (k:=0) g11
   exact run
  obtain⟨r23,g0,h0⟩:=af h0
  simp(config:=cS)only[go_sem, *]
  have g0:=ctr g0
  refine aj g0 ?_
  obtain⟨x24,g12,h0⟩:=af h0
  have:=fv (k:=0) g12
  exact run
 exact run⟩
instance k308 {n:Int}:Ctr (lU n) (fun (res:Bool)=>ak prog 308 [.lit (.int .i64 n)] [] (.lit (.bool res)) []):=⟨by
 intro res h0
 refine co (hi:=hi00) func308 rfl rfl ?_
 unfold lU at h0
 exact run⟩
instance k256 {v:List Int}:Ctr (jF v) (fun (res:Bool)=>ak prog 256 [.sl (ab eI v)] [] (.lit (.bool res)) []):=⟨by
 intro res h0
 refine co (hi:=hi00) func256 rfl rfl ?_
 unfold jF at h0
 obtain⟨_,h0⟩|⟨_,h0⟩:=itP h0
 ·obtain⟨r01,g0,h0⟩:=af h0
  simp(config:=cS)only[go_sem, *]
  refine aj (gi (by exact fun _ _ hr=>by have q:=ctr hr;exact q) (by refine⟨fun _=>?_,fun _=>?_⟩ <;> simp only[go_sem]) (fun _=>rfl) rfl g0) ?_
  exact run
 exact run⟩
@[go_sem] def wM (v37:List Int)(v38:Int)(s_0:List GNode)(s_1:List GTie)(s_2 v3_0:Int)(v3_2:List Int)(v39:Int):St:=⟨[(2,.ptr 128 1 0 0),(3,.ptr 192 1 0 0),(37,.sl (ab eI v37)),(38,.lit (.int .i64 v38)),(39,.lit (.int .i64 v39))],[(128,1,.var [.sl (ab GNode.encS s_0),.sl (ab GTie.enc s_1),.lit (.int .i64 s_2)]),(192,1,.var [.lit (.int .i64 v3_0),.sl (ab eI v37),.sl (ab eI v3_2)])],2⟩
@[go_sem] def wN (v67:List Int)(v68:Int)(s_0:List GNode)(s_1:List GTie)(s_2 v3_0:Int)(v3_1:List Int)(v69:Int):St:=⟨[(2,.ptr 128 1 0 0),(3,.ptr 192 1 0 0),(67,.sl (ab eI v67)),(68,.lit (.int .i64 v68)),(69,.lit (.int .i64 v69))],[(128,1,.var [.sl (ab GNode.encS s_0),.sl (ab GTie.enc s_1),.lit (.int .i64 s_2)]),(192,1,.var [.lit (.int .i64 v3_0),.sl (ab eI v3_1),.sl (ab eI v67)])],2⟩
instance k212 {s:GShow} {v1:GState}:Ctr (mS s v1) (fun (res:Bool)=>ak prog 212 [.agg (GShow.encS s),.agg (GState.encS v1)] [] (.lit (.bool res)) []):=⟨by
 intro res h0
 refine co (hi:=hi00) func212 rfl rfl ?_
 unfold mS at h0
 obtain⟨_,h0⟩|⟨_,h0⟩:=itP h0
 ·exact run
 obtain⟨_,h0⟩|⟨_,h0⟩:=itP h0
 ·exact run
 obtain⟨_,h0⟩|⟨_,h0⟩:=itP h0
 ·obtain⟨r01,g0,h0⟩:=af h0
  simp(config:=cS)only[go_sem, *]
  have g0:=ctr g0
  refine aj g0 ?_
  obtain⟨_,h0⟩|⟨_,h0⟩:=itB h0
  ·obtain⟨q07,l0,h0⟩:=af h0
   simp(config:=cS)only[go_sem, *]
   refine ah (m1:=.mk) (m2:=.mk) [.nf [2,3,37,38,39] [128,192]] (wM v1.times (v1.times.length:Int) s.nodes s.ties s.horizon v1.now v1.values) l0 ?_ ?_
   ·simp(config:=cS)only[go_sem, *]
   have k0:=h0
   clear h0 l0
   intro _ v39_1 _ h0 gb0
   unfold ib at h0
   try dsimp only at h0
   obtain⟨_,h0⟩|⟨_,h0⟩:=itP h0
   ·exact run
   cases h0
   obtain rfl:=(aD gb0).symm
   clear gb0
   have h0:=k0
   clear k0
   try dsimp only at h0
   obtain⟨q06,l0,h0⟩:=af h0
   simp(config:=cS)only[go_sem, *]
   refine ah (m1:=.mk) (m2:=.mk) [.nf [2,3,67,68,69] [128,192]] (wN v1.values (v1.values.length:Int) s.nodes s.ties s.horizon v1.now v1.times) l0 ?_ ?_
   ·simp(config:=cS)only[go_sem, *]
   have k0:=h0
   clear h0 l0
   intro _ v69_2 _ h0 gb0
   unfold ic at h0
   try dsimp only at h0
   exact run
  exact run
 exact run⟩
instance k109 {s:GShow} {v1:GState}:Ctr (mT s v1) (fun (res:Bool)=>ak prog 109 [.agg (GShow.encS s),.agg (GState.encS v1)] [] (.lit (.bool res)) []):=⟨by
 intro res h0
 refine co (hi:=hi00) func109 rfl rfl ?_
 unfold mT at h0
 exact run⟩
instance k127 {s:GShow}:Ctr (oX s) (fun (res:GShow × (List (ByteArray × Bool)))=>ak prog 127 [.agg (GShow.encS s)] [] (.ptr 20000 1 0 0) [(20000,1,.var [.sl (ab GNode.encS res.1.nodes),.sl (ab GTie.enc res.1.ties),.lit (.int .i64 res.1.horizon),.mp 20001 1]),(20001,1,.map (eM res.2))]):=⟨by
 intro res h0
 refine co (hi:=hi00) func127 rfl rfl ?_
 unfold oX at h0
 exact run⟩
instance k257 {l:Int} {v:List Int}:Ctr (oK l v) (fun (res:Int)=>ak prog 257 [.lit (.int .i64 l),.sl (ab eI v)] [] (.lit (.int .i64 res)) []):=⟨by
 intro res h0
 refine co (hi:=hi00) func257 rfl rfl ?_
 unfold oK at h0
 exact run⟩
@[go_sem] def ub (v v16:List Int)(v17:Int):(Int × Int)→St
 | (out,v18)=>⟨[(1,.sl (ab eI v)),(5,.lit (.int .i64 out)),(16,.sl (ab eI v16)),(17,.lit (.int .i64 v17)),(18,.lit (.int .i64 v18))],[],2⟩
instance k173 {l:List Int} {v:List Int}:Ctr (eJ l v) (fun (res:Int)=>ak prog 173 [.sl (ab eI l),.sl (ab eI v)] [] (.lit (.int .i64 res)) []):=⟨by
 intro res h0
 refine co (hi:=hi00) func173 rfl rfl ?_
 unfold eJ at h0
 obtain⟨r01,g0,h0⟩:=af h0
 simp(config:=cS)only[go_sem, *]
 have g0:=ctr g0
 refine aj g0 ?_
 obtain⟨_,h0⟩|⟨_,h0⟩:=itB h0
 ·obtain⟨r02,g0,h0⟩:=af h0
  simp(config:=cS)only[go_sem, *]
  have g0:=ctr g0
  refine aj g0 ?_
  obtain⟨_,h0⟩|⟨_,h0⟩:=itB h0
  ·obtain⟨q05,l0,h0⟩:=af h0
   simp(config:=cS)only[go_sem, *]
   refine ah (m1:=.mk) (m2:=.mk) [.nf [1,5,16,17,18] []] (ub v l (l.length:Int)) l0 ?_ ?_
   ·simp(config:=cS)only[go_sem, *]
   have k0:=h0
   clear h0 l0
   intro _ s0 _ h0 gb0
   obtain⟨out_1,v18_1⟩:=s0
   unfold gH at h0
   try dsimp only at h0
   exact run
  exact run
 exact run⟩
@[go_sem] def hi227_1:DT:=.r2 0 10 .nil
def Iz:Hint where
 acts:=fun _=>[]
 draws:=fun
  | 1=>⟨hi227_1,[[],[0],[],[0,1,2],[0,1,2,3],.range 5,[],[6],.range 8,.range 9],.range 10⟩
  | _=>⟨.nil,[],[]⟩
theorem VW (i:Nat):Iz.acts i=[]:=rfl
theorem VX (i:Nat):Iz.views i=none:=rfl
attribute[go_sem] VW VX ntmps227 results227
@[go_sem] theorem ZN:(Iz.draws 1).order=hi227_1:=rfl
instance k227 {s:GShow} {v1:GState} {node:Int}:Ctr (dj s v1 node) (fun (res:Int)=>ak prog 227 [.agg (GShow.encS s),.agg (GState.encS v1),.lit (.int .i64 node)] [] (.lit (.int .i64 res)) []):=⟨by
 intro res h0
 refine co (hi:=Iz) func227 rfl rfl ?_
 unfold dj at h0
 exact run⟩
@[go_sem] def hi226_1:DT:=.r2 0 14 .nil
def IA:Hint where
 acts:=fun _=>[]
 draws:=fun
  | 1=>⟨hi226_1,[[],[0],[],[2],[0,1,2,3],.range 5,[],[6],[],[8],[6,7,8,9],[6,7,8,9,10],.range 6,.range 13],[0,1,2,3,4,5,7,8,9,10,11,12,6,13]⟩
  | _=>⟨.nil,[],[]⟩
theorem VY (i:Nat):IA.acts i=[]:=rfl
theorem VZ (i:Nat):IA.views i=none:=rfl
attribute[go_sem] VY VZ ntmps226 results226
@[go_sem] theorem ZO:(IA.draws 1).order=hi226_1:=rfl
instance k226 {s:GShow} {v1:GState} {t:GTie}:Ctr (jt s v1 t) (fun (res:Bool)=>ak prog 226 [.agg (GShow.encS s),.agg (GState.encS v1),.agg (GTie.enc t)] [] (.lit (.bool res)) []):=⟨by
 intro res h0
 refine co (hi:=IA) func226 rfl rfl ?_
 unfold jt at h0
 exact run⟩
instance k225 {t:GTie} {s:GShow} {v2:GState}:Ctr (lV t s v2) (fun (res:Bool)=>ak prog 225 [.agg (GTie.enc t),.loc [.sl (ab GNode.encS s.nodes),.sl (ab GTie.enc s.ties),.lit (.int .i64 s.horizon)],.loc [.lit (.int .i64 v2.now),.sl (ab eI v2.times),.sl (ab eI v2.values)]] [] (.lit (.bool res)) []):=⟨by
 intro res h0
 refine co (hi:=hi00) func225 rfl rfl ?_
 unfold lV at h0
 exact run⟩
@[go_sem] def wO (v8:List Int)(v9:Int)(s_0:List GNode)(s_1:List GTie)(s_2 v3_0:Int)(v3_2:List Int)(v10:Int):St:=⟨[(2,.ptr 128 1 0 0),(3,.ptr 192 1 0 0),(8,.sl (ab eI v8)),(9,.lit (.int .i64 v9)),(10,.lit (.int .i64 v10))],[(128,1,.var [.sl (ab GNode.encS s_0),.sl (ab GTie.enc s_1),.lit (.int .i64 s_2)]),(192,1,.var [.lit (.int .i64 v3_0),.sl (ab eI v8),.sl (ab eI v3_2)])],2⟩
instance k129 {s:GShow} {v1:GState}:Ctr (kD s v1) (fun (res:Bool)=>ak prog 129 [.agg (GShow.encS s),.agg (GState.encS v1)] [] (.lit (.bool res)) []):=⟨by
 intro res h0
 refine co (hi:=hi00) func129 rfl rfl ?_
 unfold kD at h0
 obtain⟨q03,l0,h0⟩:=af h0
 simp(config:=cS)only[go_sem, *]
 refine ah (m1:=.mk) (m2:=.mk) [.nf [2,3,8,9,10] [128,192]] (wO v1.times (v1.times.length:Int) s.nodes s.ties s.horizon v1.now v1.values) l0 ?_ ?_
 ·simp(config:=cS)only[go_sem, *]
 have k0:=h0
 clear h0 l0
 intro _ v10_1 _ h0 gb0
 unfold ie at h0
 try dsimp only at h0
 exact run⟩
instance k128 {s:GShow} {v1:GState}:Ctr (lW s v1) (fun (res:Bool)=>ak prog 128 [.agg (GShow.encS s),.agg (GState.encS v1)] [] (.lit (.bool res)) []):=⟨by
 intro res h0
 refine co (hi:=hi00) func128 rfl rfl ?_
 unfold lW at h0
 obtain⟨r01,g0,h0⟩:=af h0
 simp(config:=cS)only[go_sem, *]
 refine aj (oq (by exact fun _ _ hr=>by have q:=ctr hr;exact q) (by refine⟨fun _=>?_,fun _=>?_⟩ <;> simp only[go_sem]) (fun _=>rfl) rfl g0) ?_
 exact run⟩
@[go_sem] def Cf (v13:List Int)(v14 v1_0:Int)(v1_2:List Int):(Int × (List Int))→St
 | (v15,out)=>⟨[(1,.ptr 64 1 0 0),(3,.ref 704 1 0 out.length),(13,.sl (ab eI v13)),(14,.lit (.int .i64 v14)),(15,.lit (.int .i64 v15))],[(64,1,.var [.lit (.int .i64 v1_0),.sl (ab eI v13),.sl (ab eI v1_2)]),(704,1,.row true (ab (eK .u8) out))],2⟩
@[go_sem] def Cg (v27:List Int)(v28:Int):(Int × (List Int))→St
 | (v29,out)=>⟨[(3,.ref 704 1 0 out.length),(27,.sl (ab eI v27)),(28,.lit (.int .i64 v28)),(29,.lit (.int .i64 v29))],[(704,1,.row true (ab (eK .u8) out))],2⟩
instance k293 {v0:GState}:Ctr (qo v0) (fun (res:ByteArray)=>ak prog 293 [.agg (GState.encS v0)] [] (.lit (.string res)) []):=⟨by
 intro res h0
 refine co (hi:=hi00) func293 rfl rfl ?_
 unfold qo at h0
 obtain⟨q04,l0,h0⟩:=af h0
 simp(config:=cS)only[go_sem, *]
 refine ah (m1:=.mk) (m2:=.mk) [.nf [1,3,13,14,15] [64,704]] (Cf v0.times (v0.times.length:Int) v0.now v0.values) l0 ?_ ?_
 ·simp(config:=cS)only[go_sem, *]
 have k0:=h0
 clear h0 l0
 intro _ s0 _ h0 gb0
 obtain⟨v15_1,out_1⟩:=s0
 unfold nQ at h0
 try dsimp only at h0
 obtain⟨_,h0⟩|⟨_,h0⟩:=itP h0
 ·exact run
 cases h0
 obtain rfl:=(aD gb0).symm
 clear gb0
 have h0:=k0
 clear k0
 try dsimp only at h0
 obtain⟨q03,l0,h0⟩:=af h0
 simp(config:=cS)only[go_sem, *]
 refine ah (m1:=.mk) (m2:=.mk) [.nf [3,27,28,29] [704]] (Cg v0.values (v0.values.length:Int)) l0 ?_ ?_
 ·simp(config:=cS)only[go_sem, *]
 have k0:=h0
 clear h0 l0
 intro _ s0 _ h0 gb0
 obtain⟨v29_2,out_2⟩:=s0
 unfold nR at h0
 try dsimp only at h0
 exact run⟩
@[go_sem] def xS (v9:List GTie)(v10 v3_0:Int)(v3_1 v3_2:List Int):(Int × (List Int))→St
 | (v11,out)=>⟨[(3,.ptr 192 1 0 0),(5,.ref 383 1 0 out.length),(9,.sl (ab GTie.enc v9)),(10,.lit (.int .i64 v10)),(11,.lit (.int .i64 v11))],[(192,1,.var [.lit (.int .i64 v3_0),.sl (ab eI v3_1),.sl (ab eI v3_2)]),(383,1,.row true (ab eI out))],2⟩
instance k142 {s:GShow} {v1:GState}:Ctr (nS s v1) (fun (res:List Int)=>ak prog 142 [.agg (GShow.encS s),.agg (GState.encS v1)] [] (.ref 20000 1 0 res.length) [(20000,1,.row true (ab eI res))]):=⟨by
 intro res h0
 refine aB (ra:=[.home 4]) (md:=mdT) hT (hi:=hi00) func142 rfl rfl (by decide +kernel) (by simp) ?_
 unfold nS at h0
 obtain⟨q04,l0,h0⟩:=af h0
 simp(config:=cS)only[go_sem, *]
 refine ah (m1:=.mk) (m2:=.mk) [.home 5,.nf [3,5,9,10,11] [192,383]] (xS s.ties (s.ties.length:Int) v1.now v1.times v1.values) l0 ?_ ?_
 ·simp(config:=cS)only[go_sem, *]
 have k0:=h0
 clear h0 l0
 intro _ s0 _ h0 gb0
 obtain⟨v11_1,out_1⟩:=s0
 unfold lf at h0
 try dsimp only at h0
 exact run⟩
@[go_sem] def wP (set:Int)(v8:List Int)(v9:Int):(Int × (List Int))→St
 | (v10,out)=>⟨[(1,.lit (.int .i64 set)),(5,.ref 383 1 0 out.length),(8,.sl (ab eI v8)),(9,.lit (.int .i64 v9)),(10,.lit (.int .i64 v10))],[(383,1,.row true (ab eI out))],2⟩
instance k229 {list:List Int} {set:Int}:Ctr (kE list set) (fun (res:List Int)=>ak prog 229 [.sl (ab eI list),.lit (.int .i64 set)] [] (.ref 20000 1 0 res.length) [(20000,1,.row true (ab eI res))]):=⟨by
 intro res h0
 refine aB (ra:=[.home 4]) (md:=mdT) hT (hi:=hi00) func229 rfl rfl (by decide +kernel) (by simp) ?_
 unfold kE at h0
 obtain⟨q02,l0,h0⟩:=af h0
 simp(config:=cS)only[go_sem, *]
 refine ah (m1:=.mk) (m2:=.mk) [.home 5,.nf [1,5,8,9,10] [383]] (wP set list (list.length:Int)) l0 ?_ ?_
 ·simp(config:=cS)only[go_sem, *]
 have k0:=h0
 clear h0 l0
 intro _ s0 _ h0 gb0
 obtain⟨v10_1,out_1⟩:=s0
 unfold jZ at h0
 try dsimp only at h0
 exact run⟩
instance k289 {v1:Int}:Ctr (ka v1) (fun (res:List Int × Nat)=>ak prog 289 [.lit (.slice none 0 0),.lit (.int .i64 v1)] [] (.ref 20000 1 0 res.2) [(20000,1,.row true (ab eI res.1))]):=⟨by
 intro res h0
 refine aB (ra:=[.home 4]) (md:=mdT) hT (hi:=hi00) func289 rfl rfl (by decide +kernel) (by simp) ?_
 unfold ka at h0
 exact run⟩
@[go_sem] def sH (v0:List (List Int))(v10:Int):(Int × Int)→St
 | (v3,v11)=>⟨[(0,.sl (ab (eLS eI) v0)),(3,.lit (.int .i64 v3)),(9,.sl (ab (eLS eI) v0)),(10,.lit (.int .i64 v10)),(11,.lit (.int .i64 v11))],[],2⟩
@[go_sem] def sI (v25:List (List Int))(v26:Int):(Nat × Int × (List Int))→St
 | (v6_n,v27,v6)=>⟨[(6,.ref 1536 1 0 v6_n),(25,.sl (ab (eLS eI) v25)),(26,.lit (.int .i64 v26)),(27,.lit (.int .i64 v27))],[(1536,1,.row true (ab eI v6))],2⟩
instance k228 {v0:List (List Int)}:Ctr (iw v0) (fun (res:List Int)=>ak prog 228 [.sl (ab (eLS eI) v0)] [] (.ref 20000 1 0 res.length) [(20000,1,.row true (ab eI res))]):=⟨by
 intro res h0
 refine aB (ra:=[.home 2,.trimT 2]) (md:=mdT) hT (hi:=hi00) func228 rfl rfl (by decide +kernel) (by simp) ?_
 unfold iw at h0
 obtain⟨q05,l0,h0⟩:=af h0
 simp(config:=cS)only[go_sem, *]
 refine ah (m1:=.mk) (m2:=.mk) [.nf [0,3,9,10,11] []] (sH v0 (v0.length:Int)) l0 ?_ ?_
 ·simp(config:=cS)only[go_sem, *]
 have k0:=h0
 clear h0 l0
 intro _ s0 _ h0 gb0
 obtain⟨v3_1,v11_1⟩:=s0
 unfold fb at h0
 try dsimp only at h0
 obtain⟨_,h0⟩|⟨_,h0⟩:=itP h0
 ·exact run
 cases h0
 obtain rfl:=(aD gb0).symm
 clear gb0
 have h0:=k0
 clear k0
 try dsimp only at h0
 obtain⟨r02,g0,h0⟩:=af h0
 simp(config:=cS)only[go_sem, *]
 have g0:=ctr g0
 refine aj g0 ?_
 obtain⟨q04,l0,h0⟩:=af h0
 simp(config:=cS)only[go_sem, *]
 refine ah (m1:=.mk) (m2:=.mk) [.nf [6,25,26,27] [1536]] (sI v0 (v0.length:Int)) l0 ?_ ?_
 ·simp(config:=cS)only[go_sem, *]
 have k0:=h0
 clear h0 l0
 intro _ s0 _ h0 gb0
 obtain⟨v6_n_2,v27_2,v6_2⟩:=s0
 unfold fc at h0
 try dsimp only at h0
 exact run⟩
instance k330 {v0:Int}:Ctr (tF v0) (fun (res:Int)=>ak prog 330 [.lit (.int .u64 v0)] [] (.lit (.int .i64 res)) []):=⟨by
 intro res h0
 refine co (hi:=hi00) func330 rfl rfl ?_
 unfold tF at h0
 exact run⟩
instance k291 {v0:Int}:Ctr (sL v0) (fun (res:Int)=>ak prog 291 [.lit (.int .u64 v0)] [] (.lit (.int .i64 res)) []):=⟨by
 intro res h0
 refine co (hi:=hi00) func291 rfl rfl ?_
 unfold sL at h0
 exact run⟩
instance k356 {v0:Int}:Ctr (lX v0) (fun (res:Bool)=>ak prog 356 [.lit (.int .i64 v0)] [] (.lit (.bool res)) []):=⟨by
 intro res h0
 refine co (hi:=hi00) func356 rfl rfl ?_
 unfold lX at h0
 exact run⟩
instance k326 {v0:Int} {v1:Int}:Ctr (mU v0 v1) (fun (res:Bool)=>ak prog 326 [.lit (.int .i64 v0),.lit (.int .i64 v1)] [] (.lit (.bool res)) []):=⟨by
 intro res h0
 refine co (hi:=hi00) func326 rfl rfl ?_
 unfold mU at h0
 exact run⟩
@[go_sem] def nD (zb0:Bool)(v1 v2 v6:Int):(Int × (List Int))→St
 | (v7,v0)=>⟨[(0,.ref 10000 0 0 v0.length),(1,.lit (.int .i64 v1)),(2,.lit (.int .i64 v2)),(6,.lit (.int .i64 v6)),(7,.lit (.int .i64 v7))],[(10000,0,.row zb0 (ab eI v0))],2⟩
@[go_sem] def nE (zb0:Bool)(v1 v2:Int):(Int × (List Int))→St
 | (v6,v0)=>⟨[(0,.ref 10000 0 0 v0.length),(1,.lit (.int .i64 v1)),(2,.lit (.int .i64 v2)),(6,.lit (.int .i64 v6))],[(10000,0,.row zb0 (ab eI v0))],2⟩
@[go_sem] def hi320_6:DT:=.r2 0 18 .nil
@[go_sem] def hi320_4:DT:=.r2 0 15 .nil
def Ef:Hint where
 acts:=fun _=>[]
 draws:=fun
  | 4=>⟨hi320_4,[[],[],[0,1],[0,1,2],[0,1,2,3],[0,1,2,3],.range 6,.range 7,[0,1,2,3],[0,1,2,3],[0,1,2,3,9],[0,1,2,3,8,9,10],[0,1,2,3,8,9,10,11],.range 13,.range 14],.range 15⟩
  | 6=>⟨hi320_6,[[],[],[],[],[3],[],[],[6],[5,6,7],[5,6,7,8],[],[],[10,11],[10,11,12],[0,1,5,6,7,8,9,10,11,12,13],[0,1,5,6,7,8,9,10,11,12,13,14],.range 16,.range 17],[0,1,13,14,15,2,3,4,5,6,7,8,9,10,11,12,16,17]⟩
  | _=>⟨.nil,[],[]⟩
theorem Wa (i:Nat):Ef.acts i=[]:=rfl
theorem Wb (i:Nat):Ef.views i=none:=rfl
attribute[go_sem] Wa Wb ntmps320 results320
@[go_sem] theorem ZP:(Ef.draws 4).order=hi320_4:=rfl
@[go_sem] theorem ZQ:(Ef.draws 6).order=hi320_6:=rfl
theorem pu {v0:List Int}{v1 v2:Int}{zb0:Bool}{res:List Int}(h0:bU v0 v1 v2=some res):ak prog 320 [.ref 10000 0 0 v0.length,.lit (.int .i64 v1),.lit (.int .i64 v2)] [(10000,0,.row zb0 (ab eI v0))] (.tup []) [(10000,0,.row zb0 (ab eI res))]:=by
 refine co (hi:=Ef) func320 rfl rfl ?_
 unfold bU at h0
 obtain⟨q06,l0,h0⟩:=af h0
 simp(config:=cS)only[go_sem, *]
 refine ah (m1:=.mk) (m2:=.mk) [.nf [0,1,2,6] [10000]] (nE zb0 v1 v2) l0 ?_ ?_
 ·simp(config:=cS)only[go_sem, *]
 have k0:=h0
 clear h0 l0
 intro _ s0 _ h0 gb0
 obtain⟨v6_1,v0_1⟩:=s0
 unfold bm at h0
 try dsimp only at h0
 obtain⟨_,h0⟩|⟨_,h0⟩:=itP h0
 ·obtain⟨q05,l0,h0⟩:=af h0
  simp(config:=cS)only[go_sem, *]
  refine ah (m1:=.mk) (m2:=.mk) [.nf [0,1,2,6,7] [10000]] (nD zb0 v1 v2 v6_1) l0 ?_ ?_
  ·simp(config:=cS)only[go_sem, *]
  have k0:=h0
  clear h0 l0
  intro _ s0 _ h0 gb0
  obtain⟨v7_2,v0_2⟩:=s0
  unfold aQ at h0
  try dsimp only at h0
  exact run
 exact run
@[go_sem] def pv (zb0:Bool)(v1 v2 v3:Int)(v0:List Int)(_:Unit):St:=⟨[(0,.ref 10000 0 0 v0.length),(1,.lit (.int .i64 v1)),(2,.lit (.int .i64 v2)),(3,.lit (.int .i64 v3)),(8,.lit (.bool true)),(9,.lit (.bool true))],[(10000,0,.row zb0 (ab eI v0))],2⟩
@[go_sem] def hi290_17:DT:=.r2 0 15 .nil
def IB:Hint where
 acts:=fun _=>[]
 draws:=fun
  | 17=>⟨hi290_17,[[],[0],[0,1],[0,1,2],[0,1,2],[0,1,2,4],.range 6,.range 7,[0,1,2],[0,1,2],[0,1,2,8,9],[0,1,2,8,9,10],.range 12,.range 13,.range 14],.range 15⟩
  | _=>⟨.nil,[],[]⟩
theorem Wc (i:Nat):IB.acts i=[]:=rfl
theorem Wd (i:Nat):IB.views i=none:=rfl
attribute[go_sem] Wc Wd ntmps290 results290
@[go_sem] theorem Yt:(IB.draws 17).order=hi290_17:=rfl
theorem rC {v0:List Int}{v1 v2 v3:Int}{zb0:Bool}{res:List Int}(h0:cT v0 v1 v2 v3=some res):ak prog 290 [.ref 10000 0 0 v0.length,.lit (.int .i64 v1),.lit (.int .i64 v2),.lit (.int .i64 v3)] [(10000,0,.row zb0 (ab eI v0))] (.tup []) [(10000,0,.row zb0 (ab eI res))]:=by
 refine co (hi:=IB) func290 rfl rfl ?_
 unfold cT at h0
 obtain⟨q02,l0,h0⟩:=af h0
 simp(config:=cS)only[go_sem, *]
 refine ah (m1:=.mk) (m2:=.mk) [.nf [0,1,2,3,8,9] [10000]] (pv zb0 v1 v2 v3 v0) l0 ?_ ?_
 ·simp(config:=cS)only[go_sem, *]
 have k0:=h0
 clear h0 l0
 intro _ s0 _ h0 gb0
 unfold gI at h0
 try dsimp only at h0
 obtain⟨_,h0⟩|⟨_,h0⟩:=itP h0
 ·obtain⟨r01,g0,h0⟩:=af h0
  simp(config:=cS)only[go_sem, *]
  refine aj (pu g0) ?_
  exact run
 exact run
theorem si {v0:List Int}{zb0:Bool}{res:List Int}(h0:cG v0=some res):ak prog 230 [.ref 10000 0 0 v0.length] [(10000,0,.row zb0 (ab eI v0))] (.tup []) [(10000,0,.row zb0 (ab eI res))]:=by
 refine co (hi:=hi00) func230 rfl rfl ?_
 unfold cG at h0
 obtain⟨r01,g0,h0⟩:=af h0
 simp(config:=cS)only[go_sem, *]
 have g0:=ctr g0
 refine aj g0 ?_
 obtain⟨r02,g0,h0⟩:=af h0
 simp(config:=cS)only[go_sem, *]
 refine aj (rC g0) ?_
 exact run
@[go_sem] def wQ (v21:Int)(s_0:List GNode)(s_1:List GTie)(s_2 v3_0:Int)(v3_1 v3_2 v20:List Int):(Int × (List Int) × (List Int))→St
 | (v22,must,may)=>⟨[(2,.ptr 128 1 0 0),(3,.ptr 192 1 0 0),(5,.ref 383 1 0 must.length),(6,.ref 447 1 0 may.length),(20,.ref 1280 1 0 v20.length),(21,.lit (.int .i64 v21)),(22,.lit (.int .i64 v22))],[(128,1,.var [.sl (ab GNode.encS s_0),.sl (ab GTie.enc s_1),.lit (.int .i64 s_2)]),(192,1,.var [.lit (.int .i64 v3_0),.sl (ab eI v3_1),.sl (ab eI v3_2)]),(383,1,.row true (ab eI must)),(447,1,.row true (ab eI may)),(1280,1,.row true (ab eI v20))],2⟩
@[go_sem] def wR (must may:List Int):(Int × (List (List Int)))→St
 | (set,out)=>⟨[(5,.ref 383 1 0 must.length),(6,.ref 447 1 0 may.length),(10,.ref 703 1 0 out.length),(11,.lit (.int .i64 set))],[(383,1,.tree (ab eI must)),(447,1,.row true (ab eI may)),(703,1,.row true (ab (eLO eI) out))],2⟩
@[go_sem] def hi131_7:DT:=.r2 0 14 .nil
def IC:Hint where
 acts:=fun _=>[]
 draws:=fun
  | 7=>⟨hi131_7,[[],[0],[],[2],[],[4],[],[4,5,6],[4,5,6,7],[4,5,6,7,8],[2,3,4,5,6,7,8,9],[2,3,4,5,6,7,8,9,10],.range 12,.range 13],.range 14⟩
  | _=>⟨.nil,[],[]⟩
theorem We (i:Nat):IC.acts i=[]:=rfl
theorem Wf (i:Nat):IC.views i=none:=rfl
attribute[go_sem] We Wf ntmps131 results131
@[go_sem] theorem ZR:(IC.draws 7).order=hi131_7:=rfl
instance k131 {s:GShow} {v1:GState}:Ctr (mV s v1) (fun (res:List (List Int))=>ak prog 131 [.agg (GShow.encS s),.agg (GState.encS v1)] [] (.ref 20000 1 0 res.length) [(20000,1,.row true (ab (eLO eI) res))]):=⟨by
 intro res h0
 refine aB (ra:=[.home 4]) (md:=mdT) hT (hi:=IC) func131 rfl rfl (by decide +kernel) (by simp) ?_
 unfold mV at h0
 obtain⟨_,h0⟩|⟨_,h0⟩:=itP h0
 ·exact run
 obtain⟨r01,g0,h0⟩:=af h0
 simp(config:=cS)only[go_sem, *]
 have g0:=ctr g0
 refine aj g0 ?_
 obtain⟨q09,l0,h0⟩:=af h0
 simp(config:=cS)only[go_sem, *]
 refine ah (m1:=.mk) (m2:=.mk) [.home 5,.home 6,.nf [2,3,5,6,20,21,22] [128,192,383,447,1280]] (wQ (r01.length:Int) s.nodes s.ties s.horizon v1.now v1.times v1.values r01) l0 ?_ ?_
 ·simp(config:=cS)only[go_sem, *]
 have k0:=h0
 clear h0 l0
 intro _ s0 _ h0 gb0
 obtain⟨v22_1,must_1,may_1⟩:=s0
 unfold kb at h0
 try dsimp only at h0
 obtain⟨_,h0⟩|⟨_,h0⟩:=itP h0
 ·exact run
 cases h0
 obtain rfl:=(aD gb0).symm
 clear gb0
 have h0:=k0
 clear k0
 try dsimp only at h0
 obtain⟨q08,l0,h0⟩:=af h0
 simp(config:=cS)only[go_sem, *]
 refine ah (m1:=.mk) (m2:=.mk) [.home 10,.freeze [383],.nf [5,6,10,11] [383,447,703]] (wR must_1 may_1) l0 ?_ ?_
 ·simp(config:=cS)only[go_sem, *]
 have k0:=h0
 clear h0 l0
 intro _ s0 _ h0 gb0
 obtain⟨set_2,out_2⟩:=s0
 unfold kc at h0
 try dsimp only at h0
 obtain⟨_,h0⟩:=ckN h0
 obtain⟨_,h0⟩|⟨_,h0⟩:=itP h0
 ·obtain⟨r05,g0,h0⟩:=af h0
  simp(config:=cS)only[go_sem, *]
  have g0:=ctr g0
  refine aj g0 ?_
  obtain⟨r06,g0,h0⟩:=af h0
  simp(config:=cS)only[go_sem, *]
  have g0:=ctr g0
  refine aj g0 ?_
  obtain⟨r07,g0,h0⟩:=af h0
  simp(config:=cS)only[go_sem, *]
  refine aj (si g0) ?_
  exact run
 exact run⟩
instance k94 {v0:List Int}:Ctr (ga v0) (fun (res:List Int)=>ak prog 94 [.sl (ab eI v0)] [] (.ref 20000 1 0 res.length) [(20000,1,.row true (ab eI res))]):=⟨by
 intro res h0
 refine aB (ra:=[.home 2]) (md:=mdT) hT (hi:=hi00) func94 rfl rfl (by decide +kernel) (by simp) ?_
 unfold ga at h0
 obtain⟨_,h0,_⟩|⟨a0,h0⟩:=Oj h0
 ·exact run
 have:=fun (e:_→List AV)=>ML (e:=e) a0
 exact run⟩
@[go_sem] def hi202_1:DT:=.i1 0 (.i1 1 (.i2 2 (.i2 3 (.i1 5 (.i1 6 (.i0 4 [0,1,5,6] (.i0 7 [0,1] (.i2 8 (.i2 9 .nil)))))))))
def ID:Hint where
 acts:=fun _=>[]
 draws:=fun
  | 1=>⟨hi202_1,[[],[0],[],[2],[2,3],[],[5],[2,3,4,5,6],.range 8,.range 9],.range 10⟩
  | _=>⟨.nil,[],[]⟩
theorem Wg (i:Nat):ID.acts i=[]:=rfl
theorem Wh (i:Nat):ID.views i=none:=rfl
attribute[go_sem] Wg Wh ntmps202 results202
@[go_sem] theorem ZS:(ID.draws 1).order=hi202_1:=rfl
instance k202 {v0:GState}:Ctr (fw v0) (fun (res:GState)=>ak prog 202 [.agg (GState.encS v0)] [] (.agg [.lit (.int .i64 res.now),.ref 20000 1 0 res.times.length,.ref 20001 1 0 res.values.length]) [(20000,1,.row true (ab eI res.times)),(20001,1,.row true (ab eI res.values))]):=⟨by
 intro res h0
 refine aB (ra:=[.homeCell 128 1,.homeCell 128 2]) (md:=mdT) hT (hi:=ID) func202 rfl rfl (by decide +kernel) (by simp) ?_
 unfold fw at h0
 exact run⟩
@[go_sem] def yI (v12:List Int)(v13:Int)(s_0:List GNode)(s_1:List GTie)(s_2 v4_0:Int)(v4_1 v4_2:List Int)(out_0:Int)(h705:List Int):(Int × (List Int))→St
 | (v14,h704)=>⟨[(3,.ptr 192 1 0 0),(4,.ptr 256 1 0 0),(6,.ptr 384 1 0 0),(7,.ptr 448 1 0 0),(12,.sl (ab eI v12)),(13,.lit (.int .i64 v13)),(14,.lit (.int .i64 v14))],[(192,1,.var [.sl (ab GNode.encS s_0),.sl (ab GTie.enc s_1),.lit (.int .i64 s_2)]),(256,1,.var [.lit (.int .i64 v4_0),.sl (ab eI v4_1),.sl (ab eI v4_2)]),(384,1,.var [.lit (.int .i64 0),.lit (.slice none 0 0),.lit (.slice none 0 0)]),(448,1,.var [.lit (.int .i64 out_0),.ref 704 1 0 h704.length,.ref 705 1 0 h705.length]),(704,1,.row true (ab eI h704)),(705,1,.row true (ab eI h705))],2⟩
@[go_sem] def hi132_5:DT:=.r2 0 12 .nil
def IE:Hint where
 acts:=fun _=>[]
 draws:=fun
  | 5=>⟨hi132_5,[[],[0],[],[2],[],[2,3,4],[2,3,4,5],[2,3,4,5,6],[],[8],.range 10,.range 11],.range 12⟩
  | _=>⟨.nil,[],[]⟩
theorem Wi (i:Nat):IE.acts i=[]:=rfl
theorem Wj (i:Nat):IE.views i=none:=rfl
attribute[go_sem] Wi Wj ntmps132 results132
@[go_sem] theorem ZT:(IE.draws 5).order=hi132_5:=rfl
instance k132 {s:GShow} {v1:GState} {ties:List Int}:Ctr (oL s v1 ties) (fun (res:GState)=>ak prog 132 [.agg (GShow.encS s),.agg (GState.encS v1),.sl (ab eI ties)] [] (.agg [.lit (.int .i64 res.now),.ref 20000 1 0 res.times.length,.ref 20001 1 0 res.values.length]) [(20000,1,.row true (ab eI res.times)),(20001,1,.row true (ab eI res.values))]):=⟨by
 intro res h0
 refine aB (ra:=[.homeCell 384 1,.homeCell 384 2]) (md:=mdT) hT (hi:=IE) func132 rfl rfl (by decide +kernel) (by simp) ?_
 unfold oL at h0
 obtain⟨r01,g0,h0⟩:=af h0
 simp(config:=cS)only[go_sem, *]
 have g0:=ctr g0
 refine aj g0 ?_
 obtain⟨q05,l0,h0⟩:=af h0
 simp(config:=cS)only[go_sem, *]
 refine ah (m1:=.mk) (m2:=.mk) [.nf [3,4,6,7,12,13,14] [192,256,384,448,704,705]] (yI ties (ties.length:Int) s.nodes s.ties s.horizon v1.now v1.times v1.values r01.now r01.values) l0 ?_ ?_
 ·simp(config:=cS)only[go_sem, *]
 have k0:=h0
 clear h0 l0
 intro _ s0 _ h0 gb0
 obtain⟨v14_1,h704_1⟩:=s0
 unfold lY at h0
 try dsimp only at h0
 exact run⟩
@[go_sem] def xT (s_0:List GNode)(s_1:List GTie)(s_2:Int):(Int × (List Int))→St
 | (i,out)=>⟨[(1,.ptr 64 1 0 0),(3,.ref 255 1 0 out.length),(4,.lit (.int .i64 i))],[(64,1,.var [.sl (ab GNode.encS s_0),.sl (ab GTie.enc s_1),.lit (.int .i64 s_2)]),(255,1,.row true (ab eI out))],2⟩
instance k112 {s:GShow}:Ctr (nT s) (fun (res:List Int)=>ak prog 112 [.agg (GShow.encS s)] [] (.ref 20000 1 0 res.length) [(20000,1,.row true (ab eI res))]):=⟨by
 intro res h0
 refine aB (ra:=[.home 2]) (md:=mdT) hT (hi:=hi00) func112 rfl rfl (by decide +kernel) (by simp) ?_
 unfold nT at h0
 obtain⟨q02,l0,h0⟩:=af h0
 simp(config:=cS)only[go_sem, *]
 refine ah (m1:=.mk) (m2:=.mk) [.home 3,.nf [1,3,4] [64,255]] (xT s.nodes s.ties s.horizon) l0 ?_ ?_
 ·simp(config:=cS)only[go_sem, *]
 have k0:=h0
 clear h0 l0
 intro _ s0 _ h0 gb0
 obtain⟨i_1,out_1⟩:=s0
 unfold lg at h0
 try dsimp only at h0
 exact run⟩
@[go_sem] def qK (zb0:Bool)(f_v1:Nat)(k_v1:List AV):(Int × Int × (List Int))→St
 | (v5,v6,v0)=>⟨[(0,.ref 10000 0 0 v0.length),(1,.fn f_v1 k_v1),(5,.lit (.int .i64 v5)),(6,.lit (.int .i64 v6))],[(10000,0,.row zb0 (ab eI v0))],2⟩
theorem uc {v0:List Int}{v1:Int→Option Bool}{zb0:Bool}{f_v1:Nat}{k_v1:List AV}(hp_v1:∀ y0 r,v1 y0=some r→ak prog f_v1 ([.lit (.int .i64 y0)]++k_v1) [] (.lit (.bool r)) [])(hc_v1:KC k_v1)(hm_v1:∀ a,mdT f_v1 a=⟨[],false⟩)(hk_v1:spf f_v1=false){res:List Int}(h:eE v0 v1=some res):ak prog 141 [.ref 10000 0 0 v0.length,.fn f_v1 k_v1] [(10000,0,.row zb0 (ab eI v0))] (.ref 10000 0 0 res.length) [(10000,0,.row false (ab eI res))]:=by
 refine aB (ra:=[.home 4,.trim 4]) (md:=mdT) hT (hi:=hi00) func141 rfl rfl (by decide +kernel) (by simp) ?_
 unfold eE at h
 obtain⟨r01,g1,h⟩:=af h
 simp(config:=cS)only[go_sem,hc_v1.1,hc_v1.2,hm_v1,hk_v1]
 refine aj (pq hp_v1 hc_v1 hm_v1 hk_v1 g1) ?_
 obtain⟨h2,h⟩|⟨h2,h⟩:=aP h
 ·cases h
  simp(config:=cS)only[go_sem,hc_v1.1,hc_v1.2,hm_v1,hk_v1,eqT h2]
 obtain⟨q05,l3,h⟩:=af h
 simp(config:=cS)only[go_sem,hc_v1.1,hc_v1.2,hm_v1,hk_v1,eqF h2]
 refine ah (m1:=.mk) (m2:=.mk) [.nf [0,1,5,6] [10000]] (qK zb0 f_v1 k_v1) l3 ?_ ?_
 ·simp(config:=cS)only[go_sem,hc_v1.1,hc_v1.2,hm_v1,hk_v1,eqF h2]
 intro nb4 sb4 bb4 b4 gb4
 obtain⟨v5_1,v6_1,v0_1⟩:=sb4
 unfold dn at b4
 try dsimp only at b4
 obtain⟨h5,b4⟩|⟨h5,b4⟩:=aP b4
 ·obtain⟨x02,g6,b4⟩:=af b4
  obtain⟨h7,h8,h9⟩:=dO g6
  obtain⟨r03,g10,b4⟩:=af b4
  simp(config:=cS)only[go_sem,hc_v1.1,hc_v1.2,hm_v1,hk_v1,eqF h2,eqT h5,h7,h8,h9]
  refine aj (hp_v1 _ _ g10) ?_
  obtain⟨h11,b4⟩|⟨h11,b4⟩:=aP b4
  ·cases b4
   simp(config:=cS)only[go_sem,hc_v1.1,hc_v1.2,hm_v1,hk_v1,eqF h2,eqT h5,h7,h8,h9,eZt h11]
   refine fA gb4 ?_
   simp(config:=cS)only[go_sem,hc_v1.1,hc_v1.2,hm_v1,hk_v1,eqF h2,eqT h5,h7,h8,h9,eZt h11]
  obtain⟨x04,g12,b4⟩:=af b4
  obtain⟨h13,h14,h15⟩:=dO g12
  cases b4
  simp(config:=cS)only[go_sem,hc_v1.1,hc_v1.2,hm_v1,hk_v1,eqF h2,eqT h5,h7,h8,h9,eZf h11,h13,h14,h15]
  refine fA gb4 ?_
  simp(config:=cS)only[go_sem,hc_v1.1,hc_v1.2,hm_v1,hk_v1,eqF h2,eqT h5,h7,h8,h9,eZf h11,h13,h14,h15]
 cases b4
 obtain rfl:=(aD gb4).symm
 try dsimp only at h
 obtain⟨h17,h⟩:=fq h
 obtain⟨h18,h⟩:=fq h
 obtain⟨h19,h⟩:=fq h
 cases h
 simp(config:=cS)only[go_sem,hc_v1.1,hc_v1.2,hm_v1,hk_v1,eqF h2,eqF h5,eqT h17,eqT h18,eqT h19]
instance k292 {i:Int} {v1:GState} {s:GShow}:Ctr (mz i v1 s) (fun (res:Bool)=>ak prog 292 [.lit (.int .i64 i),.loc [.lit (.int .i64 v1.now),.sl (ab eI v1.times),.sl (ab eI v1.values)],.loc [.sl (ab GNode.encS s.nodes),.sl (ab GTie.enc s.ties),.lit (.int .i64 s.horizon)]] [] (.lit (.bool res)) []):=⟨by
 intro res h0
 refine co (hi:=hi00) func292 rfl rfl ?_
 unfold mz at h0
 exact run⟩
instance k231 {s:GShow} {v1:GState}:Ctr (mW s v1) (fun (res:List Int)=>ak prog 231 [.agg (GShow.encS s),.agg (GState.encS v1)] [] (.ref 20000 1 0 res.length) [(20000,1,.row false (ab eI res))]):=⟨by
 intro res h0
 refine aB (ra:=[.home 4,.trim 4]) (md:=mdT) hT (hi:=hi00) func231 rfl rfl (by decide +kernel) (by simp) ?_
 unfold mW at h0
 obtain⟨r01,g0,h0⟩:=af h0
 simp(config:=cS)only[go_sem, *]
 have g0:=ctr g0
 refine aj g0 ?_
 obtain⟨r02,g0,h0⟩:=af h0
 simp(config:=cS)only[go_sem, *]
 refine aj (uc (by exact fun _ _ hr=>by have q:=ctr hr;exact q) (by refine⟨fun _=>?_,fun _=>?_⟩ <;> simp only[go_sem]) (fun _=>rfl) rfl g0) ?_
 exact run⟩
@[go_sem] def uQ (nodes:List Int):(Int × (List (List Int)))→St
 | (set,out)=>⟨[(5,.ref 640 1 0 nodes.length),(6,.ref 447 1 0 out.length),(7,.lit (.int .i64 set))],[(640,1,.row false (ab eI nodes)),(447,1,.row true (ab (eLO eI) out))],2⟩
instance k278 {s:GShow} {v1:GState}:Ctr (li s v1) (fun (res:List (List Int))=>ak prog 278 [.agg (GShow.encS s),.agg (GState.encS v1)] [] (.ref 20000 1 0 res.length) [(20000,1,.row true (ab (eLO eI) res))]):=⟨by
 intro res h0
 refine aB (ra:=[.home 4]) (md:=mdT) hT (hi:=hi00) func278 rfl rfl (by decide +kernel) (by simp) ?_
 unfold li at h0
 obtain⟨r01,g0,h0⟩:=af h0
 simp(config:=cS)only[go_sem, *]
 have g0:=ctr g0
 refine aj g0 ?_
 obtain⟨_,h0⟩:=ckN h0
 obtain⟨q03,l0,h0⟩:=af h0
 simp(config:=cS)only[go_sem, *]
 refine ah (m1:=.mk) (m2:=.mk) [.home 6,.nf [5,6,7] [640,447]] (uQ r01) l0 ?_ ?_
 ·simp(config:=cS)only[go_sem, *]
 have k0:=h0
 clear h0 l0
 intro _ s0 _ h0 gb0
 obtain⟨set_1,out_1⟩:=s0
 unfold ix at h0
 try dsimp only at h0
 exact run⟩
@[go_sem] def wS (v14:List Int)(v15:Int)(s_0:List GNode)(s_1:List GTie)(s_2 v4_0:Int)(v4_1 v4_2:List Int)(out_0:Int)(h833:List Int):(Int × (List Int) × (List Int))→St
 | (v16,props,h832)=>⟨[(3,.ptr 192 1 0 0),(4,.ptr 256 1 0 0),(6,.ptr 384 1 0 0),(8,.ptr 512 1 0 0),(9,.ref 639 1 0 props.length),(14,.sl (ab eI v14)),(15,.lit (.int .i64 v15)),(16,.lit (.int .i64 v16))],[(192,1,.var [.sl (ab GNode.encS s_0),.sl (ab GTie.enc s_1),.lit (.int .i64 s_2)]),(256,1,.var [.lit (.int .i64 v4_0),.sl (ab eI v4_1),.sl (ab eI v4_2)]),(384,1,.var [.lit (.int .i64 0),.lit (.slice none 0 0),.lit (.slice none 0 0)]),(512,1,.var [.lit (.int .i64 out_0),.ref 832 1 0 h832.length,.ref 833 1 0 h833.length]),(832,1,.row true (ab eI h832)),(833,1,.row true (ab eI h833)),(639,1,.row true (ab eI props))],2⟩
instance k134 {s:GShow} {v1:GState} {nodes:List Int}:Ctr (mX s v1 nodes) (fun (res:GState × (List Int))=>ak prog 134 [.agg (GShow.encS s),.agg (GState.encS v1),.sl (ab eI nodes)] [] (.tup [.agg [.lit (.int .i64 res.1.now),.ref 20000 1 0 res.1.times.length,.ref 20001 1 0 res.1.values.length],.ref 20002 1 0 res.2.length]) [(20000,1,.row true (ab eI res.1.times)),(20001,1,.row true (ab eI res.1.values)),(20002,1,.row true (ab eI res.2))]):=⟨by
 intro res h0
 refine aB (ra:=[.homeCell 384 1,.homeCell 384 2,.home 7]) (md:=mdT) hT (hi:=hi00) func134 rfl rfl (by decide +kernel) (by simp) ?_
 unfold mX at h0
 obtain⟨r01,g0,h0⟩:=af h0
 simp(config:=cS)only[go_sem, *]
 have g0:=ctr g0
 refine aj g0 ?_
 obtain⟨q06,l0,h0⟩:=af h0
 simp(config:=cS)only[go_sem, *]
 refine ah (m1:=.mk) (m2:=.mk) [.home 9,.nf [3,4,6,8,9,14,15,16] [192,256,384,512,832,833,639]] (wS nodes (nodes.length:Int) s.nodes s.ties s.horizon v1.now v1.times v1.values r01.now r01.values) l0 ?_ ?_
 ·simp(config:=cS)only[go_sem, *]
 have k0:=h0
 clear h0 l0
 intro _ s0 _ h0 gb0
 obtain⟨v16_1,props_1,h832_1⟩:=s0
 unfold kd at h0
 try dsimp only at h0
 obtain⟨_,h0⟩|⟨_,h0⟩:=itP h0
 ·exact run
 cases h0
 obtain rfl:=(aD gb0).symm
 clear gb0
 have h0:=k0
 clear k0
 try dsimp only at h0
 obtain⟨r05,g0,h0⟩:=af h0
 simp(config:=cS)only[go_sem, *]
 refine aj (si g0) ?_
 exact run⟩
@[go_sem] def rD (props:List Int)(v10 v11:Int):St:=⟨[(0,.sl (ab eI props)),(9,.sl (ab eI props)),(10,.lit (.int .i64 v10)),(11,.lit (.int .i64 v11))],[],2⟩
@[go_sem] def rE (props:List Int)(n v44:Int)(out:List (List Int)):(Int × (List Int))→St
 | (v45,values)=>⟨[(0,.sl (ab eI props)),(5,.ref 383 1 0 out.length),(6,.lit (.int .i64 n)),(7,.ref 511 1 0 values.length),(44,.lit (.int .i64 v44)),(45,.lit (.int .i64 v45))],[(383,1,.row true (ab (eLO eI) out)),(511,1,.row true (ab eI values))],2⟩
@[go_sem] def rG (props:List Int):(Int × (List (List Int)))→St
 | (n,out)=>⟨[(0,.sl (ab eI props)),(5,.ref 383 1 0 out.length),(6,.lit (.int .i64 n))],[(383,1,.row true (ab (eLO eI) out))],2⟩
instance k136 {props:List Int}:Ctr (gb props) (fun (res:List (List Int))=>ak prog 136 [.sl (ab eI props)] [] (.ref 20000 1 0 res.length) [(20000,1,.row true (ab (eLO eI) res))]):=⟨by
 intro res h0
 refine aB (ra:=[.home 2]) (md:=mdT) hT (hi:=hi00) func136 rfl rfl (by decide +kernel) (by simp) ?_
 unfold gb at h0
 obtain⟨q05,l0,h0⟩:=af h0
 simp(config:=cS)only[go_sem, *]
 refine ah (m1:=.mk) (m2:=.mk) [.nf [0,9,10,11] []] (rD props (props.length:Int)) l0 ?_ ?_
 ·simp(config:=cS)only[go_sem, *]
 have k0:=h0
 clear h0 l0
 intro _ v11_1 _ h0 gb0
 unfold dT at h0
 try dsimp only at h0
 obtain⟨_,h0⟩|⟨_,h0⟩:=itP h0
 ·exact run
 cases h0
 obtain rfl:=(aD gb0).symm
 clear gb0
 have h0:=k0
 clear k0
 try dsimp only at h0
 obtain⟨q04,l0,h0⟩:=af h0
 simp(config:=cS)only[go_sem, *]
 refine ah (m1:=.mk) (m2:=.mk) [.home 5,.nf [0,5,6] [383]] (rG props) l0 ?_ ?_
 ·simp(config:=cS)only[go_sem, *]
 have k0:=h0
 clear h0 l0
 intro _ s0 _ h0 gb0
 obtain⟨n_2,out_2⟩:=s0
 unfold dV at h0
 try dsimp only at h0
 obtain⟨_,h0⟩:=ckN h0
 obtain⟨_,h0⟩|⟨_,h0⟩:=itP h0
 ·obtain⟨q03,l0,h0⟩:=af h0
  simp(config:=cS)only[go_sem, *]
  refine ah (m1:=.mk) (m2:=.mk) [.home 7,.nf [0,5,6,7,44,45] [383,511]] (rE props n_2 (props.length:Int) out_2) l0 ?_ ?_
  ·simp(config:=cS)only[go_sem, *]
  have k0:=h0
  clear h0 l0
  intro _ s0 _ h0 gb0
  obtain⟨v45_3,values_3⟩:=s0
  unfold dU at h0
  try dsimp only at h0
  exact run
 exact run⟩
@[go_sem] def vD (values v12:List Int)(v13 out_0:Int)(h704:List Int):(Int × (List Int))→St
 | (v14,h705)=>⟨[(2,.sl (ab eI values)),(6,.ptr 384 1 0 0),(7,.ptr 448 1 0 0),(12,.sl (ab eI v12)),(13,.lit (.int .i64 v13)),(14,.lit (.int .i64 v14))],[(384,1,.var [.lit (.int .i64 0),.lit (.slice none 0 0),.lit (.slice none 0 0)]),(448,1,.var [.lit (.int .i64 out_0),.ref 704 1 0 h704.length,.ref 705 1 0 h705.length]),(704,1,.row true (ab eI h704)),(705,1,.row true (ab eI h705))],2⟩
@[go_sem] def hi138_5:DT:=.r2 0 10 .nil
def IF:Hint where
 acts:=fun _=>[]
 draws:=fun
  | 5=>⟨hi138_5,[[],[0],[],[2],[],[],[4,5],[4,5,6],.range 8,.range 9],.range 10⟩
  | _=>⟨.nil,[],[]⟩
theorem Wk (i:Nat):IF.acts i=[]:=rfl
theorem Wl (i:Nat):IF.views i=none:=rfl
attribute[go_sem] Wk Wl ntmps138 results138
@[go_sem] theorem ZU:(IF.draws 5).order=hi138_5:=rfl
instance k138 {v0:GState} {props:List Int} {values:List Int}:Ctr (lZ v0 props values) (fun (res:GState)=>ak prog 138 [.agg (GState.encS v0),.sl (ab eI props),.sl (ab eI values)] [] (.agg [.lit (.int .i64 res.now),.ref 20000 1 0 res.times.length,.ref 20001 1 0 res.values.length]) [(20000,1,.row true (ab eI res.times)),(20001,1,.row true (ab eI res.values))]):=⟨by
 intro res h0
 refine aB (ra:=[.homeCell 384 1,.homeCell 384 2]) (md:=mdT) hT (hi:=IF) func138 rfl rfl (by decide +kernel) (by simp) ?_
 unfold lZ at h0
 obtain⟨r01,g0,h0⟩:=af h0
 simp(config:=cS)only[go_sem, *]
 have g0:=ctr g0
 refine aj g0 ?_
 obtain⟨q05,l0,h0⟩:=af h0
 simp(config:=cS)only[go_sem, *]
 refine ah (m1:=.mk) (m2:=.mk) [.nf [2,6,7,12,13,14] [384,448,704,705]] (vD values props (props.length:Int) r01.now r01.times) l0 ?_ ?_
 ·simp(config:=cS)only[go_sem, *]
 have k0:=h0
 clear h0 l0
 intro _ s0 _ h0 gb0
 obtain⟨v14_1,h705_1⟩:=s0
 unfold ju at h0
 try dsimp only at h0
 exact run⟩
@[go_sem] def oG (v23 next_0:Int)(h1152 h1153 props:List Int)(v22:List (List Int))(g_0:List GNode)(g_1:List GTie)(g_2:Int):(Int × (List (ByteArray × Bool)))→St
 | (v24,h10001)=>⟨[(0,.ptr 10000 0 0 0),(7,.ptr 448 1 0 0),(8,.ref 1154 1 0 props.length),(22,.ref 1408 1 0 v22.length),(23,.lit (.int .i64 v23)),(24,.lit (.int .i64 v24))],[(10000,0,.var [.sl (ab GNode.encS g_0),.sl (ab GTie.enc g_1),.lit (.int .i64 g_2),.mp 10001 0]),(10001,0,.map (eM h10001)),(448,1,.var [.lit (.int .i64 next_0),.ref 1152 1 0 h1152.length,.ref 1153 1 0 h1153.length]),(1152,1,.row true (ab eI h1152)),(1153,1,.row true (ab eI h1153)),(1154,1,.row true (ab eI props)),(1408,1,.tree (ab (eLS eI) v22))],2⟩
@[go_sem] def hi279_1:DT:=.i2 0 (.i1 1 (.i1 2 (.i1 3 (.i1 4 (.i2 5 (.fork (.i2 6 (.i2 7 (.i2 8 (.i2 9 (.i0 10 [1,2,3,4] (.i2 11 (.i2 12 .nil))))))) (.i0 10 [1,2,3,4] (.i2 6 (.i2 7 (.i2 8 (.i2 9 (.i2 11 (.i2 12 .nil)))))))))))))
def IG:Hint where
 acts:=fun _=>[]
 draws:=fun
  | 1=>⟨hi279_1,[[],[0],[0,1],[0,1,2],[],[],.range 6,.range 7,.range 8,.range 8,[],[0,1,2,3,4,5,6,7,8,10],.range 12],[0,1,2,3,4,5,6,7,8,11,9,10,12]⟩
  | _=>⟨.nil,[],[]⟩
@[go_sem] theorem Wm (i:Nat):IG.acts i=[]:=rfl
theorem Wn (i:Nat):IG.views i=none:=rfl
attribute[go_sem] Wn ntmps279 results279
@[go_sem] theorem ZV:(IG.draws 1).order=hi279_1:=rfl
theorem wT {rec:GShow→(List (ByteArray × Bool))→GState→Option (Bool × (List (ByteArray × Bool)))}(hrec:∀ {g_s:GShow} {g_known:List (ByteArray × Bool)} {v1:GState} {res:Bool × (List (ByteArray × Bool))},rec g_s g_known v1=some res→ak prog 232 [.ptr 10000 0 0 0,.agg (GState.encS v1)] [(10000,0,.var [.sl (ab GNode.encS g_s.nodes),.sl (ab GTie.enc g_s.ties),.lit (.int .i64 g_s.horizon),.mp 10001 0]),(10001,0,.map (eM g_known))] (.lit (.bool res.1)) [(10000,0,.var [.sl (ab GNode.encS g_s.nodes),.sl (ab GTie.enc g_s.ties),.lit (.int .i64 g_s.horizon),.mp 10001 0]),(10001,0,.map (eM res.2))]){g_s:GShow}{g_known:List (ByteArray × Bool)}{v1:GState}{nodes:List Int}{res:Bool × (List (ByteArray × Bool))}(h:gJ rec g_s g_known v1 nodes=some res):ak prog 279 [.ptr 10000 0 0 0,.agg (GState.encS v1),.sl (ab eI nodes)] [(10000,0,.var [.sl (ab GNode.encS g_s.nodes),.sl (ab GTie.enc g_s.ties),.lit (.int .i64 g_s.horizon),.mp 10001 0]),(10001,0,.map (eM g_known))] (.lit (.bool res.1)) [(10000,0,.var [.sl (ab GNode.encS g_s.nodes),.sl (ab GTie.enc g_s.ties),.lit (.int .i64 g_s.horizon),.mp 10001 0]),(10001,0,.map (eM res.2))]:=by
 refine co (hi:=IG) func279 rfl rfl ?_
 unfold gJ at h
 try simp(config:=cS)only[go_sem]
 refine gp ?_ ?_
 ·obtain⟨r01,g1,h⟩:=af h
  simp(config:=cS)only[go_sem]
  have g1:=ctr g1
  refine aj g1 ?_
  obtain⟨r02,g2,h⟩:=af h
  simp(config:=cS)only[go_sem]
  have g2:=ctr g2
  refine aj g2 ?_
  obtain⟨q06,l3,h⟩:=af h
  simp(config:=cS)only[go_sem]
  refine ah (m1:=.mk) (m2:=.mk) [.freeze [1408],.nf [0,7,8,22,23,24] [10000,10001,448,1152,1153,1154,1408]] (oG (r02.length:Int) r01.1.now r01.1.times r01.1.values r01.2 r02 g_s.nodes g_s.ties g_s.horizon) l3 ?_ ?_
  ·simp(config:=cS)only[go_sem]
  intro nb4 sb4 bb4 b4 gb4
  obtain⟨v24_1,h10001_1⟩:=sb4
  unfold dM at b4
  try dsimp only at b4
  obtain⟨h5,b4⟩|⟨h5,b4⟩:=aP b4
  ·obtain⟨x03,g6,b4⟩:=af b4
   obtain⟨h7,h8,h9⟩:=dO g6
   obtain⟨r04,g10,b4⟩:=af b4
   simp(config:=cS)only[go_sem,eqT h5,h7,h8,h9]
   have g10:=ctr g10
   refine aj g10 ?_
   obtain⟨r05,g11,b4⟩:=af b4
   simp(config:=cS)only[go_sem,eqT h5,h7,h8,h9]
   refine aj (hrec g11) ?_
   obtain⟨h12,b4⟩|⟨h12,b4⟩:=aP b4
   ·cases b4
    simp(config:=cS)only[go_sem,eqT h5,h7,h8,h9,eZt h12]
    refine fA gb4 ?_
    simp(config:=cS)only[go_sem,eqT h5,h7,h8,h9,eZt h12]
   cases b4
   obtain rfl:=(aD gb4).symm
   try dsimp only at h
   cases h
   simp(config:=cS)only[go_sem,eqT h5,h7,h8,h9,eZf h12]
  cases b4
  obtain rfl:=(aD gb4).symm
  try dsimp only at h
  cases h
  simp(config:=cS)only[go_sem,eqF h5]
 obtain⟨r07,g15,h⟩:=af h
 simp(config:=cS)only[go_sem]
 have g15:=ctr g15
 refine aj g15 ?_
 obtain⟨r08,g16,h⟩:=af h
 simp(config:=cS)only[go_sem]
 have g16:=ctr g16
 refine aj g16 ?_
 obtain⟨q12,l17,h⟩:=af h
 simp(config:=cS)only[go_sem]
 refine ah (m1:=.mk) (m2:=.mk) [.freeze [1408],.nf [0,7,8,22,23,24] [10000,10001,448,1152,1153,1154,1408]] (oG (r08.length:Int) r07.1.now r07.1.times r07.1.values r07.2 r08 g_s.nodes g_s.ties g_s.horizon) l17 ?_ ?_
 ·simp(config:=cS)only[go_sem]
 intro nb18 sb18 bb18 b18 gb18
 obtain⟨v24_2,h10001_2⟩:=sb18
 unfold dM at b18
 try dsimp only at b18
 obtain⟨h19,b18⟩|⟨h19,b18⟩:=aP b18
 ·obtain⟨x09,g20,b18⟩:=af b18
  obtain⟨h21,h22,h23⟩:=dO g20
  obtain⟨r10,g24,b18⟩:=af b18
  simp(config:=cS)only[go_sem,eqT h19,h21,h22,h23]
  have g24:=ctr g24
  refine aj g24 ?_
  obtain⟨r11,g25,b18⟩:=af b18
  simp(config:=cS)only[go_sem,eqT h19,h21,h22,h23]
  refine aj (hrec g25) ?_
  obtain⟨h26,b18⟩|⟨h26,b18⟩:=aP b18
  ·cases b18
   simp(config:=cS)only[go_sem,eqT h19,h21,h22,h23,eZt h26]
   refine fA gb18 ?_
   simp(config:=cS)only[go_sem,eqT h19,h21,h22,h23,eZt h26]
  cases b18
  obtain rfl:=(aD gb18).symm
  try dsimp only at h
  cases h
  simp(config:=cS)only[go_sem,eqT h19,h21,h22,h23,eZf h26]
 cases b18
 obtain rfl:=(aD gb18).symm
 try dsimp only at h
 cases h
 simp(config:=cS)only[go_sem,eqF h19]
@[go_sem] def ud (v14 v3_0:Int)(v3_1 v3_2:List Int)(v13:List (List Int))(g_0:List GNode)(g_1:List GTie)(g_2:Int):(Int × (List (ByteArray × Bool)))→St
 | (v15,h10001)=>⟨[(0,.ptr 10000 0 0 0),(3,.ptr 192 1 0 0),(13,.ref 832 1 0 v13.length),(14,.lit (.int .i64 v14)),(15,.lit (.int .i64 v15))],[(10000,0,.var [.sl (ab GNode.encS g_0),.sl (ab GTie.enc g_1),.lit (.int .i64 g_2),.mp 10001 0]),(10001,0,.map (eM h10001)),(192,1,.var [.lit (.int .i64 v3_0),.sl (ab eI v3_1),.sl (ab eI v3_2)]),(832,1,.tree (ab (eLS eI) v13))],2⟩
@[go_sem] def hi207_1:DT:=.r2 0 5 (.i2 7 (.i2 5 (.i2 6 .nil)))
def IH:Hint where
 acts:=fun _=>[]
 draws:=fun
  | 1=>⟨hi207_1,[[],[0],[0,1],[0,1,2],[],.range 5,.range 6,[]],.range 8⟩
  | _=>⟨.nil,[],[]⟩
@[go_sem] theorem aay (i:Nat):IH.acts i=[]:=rfl
theorem Wo (i:Nat):IH.views i=none:=rfl
attribute[go_sem] Wo ntmps207 results207
@[go_sem] theorem ZW:(IH.draws 1).order=hi207_1:=rfl
theorem xU {rec:GShow→(List (ByteArray × Bool))→GState→Option (Bool × (List (ByteArray × Bool)))}(hrec:∀ {g_s:GShow} {g_known:List (ByteArray × Bool)} {v1:GState} {res:Bool × (List (ByteArray × Bool))},rec g_s g_known v1=some res→ak prog 232 [.ptr 10000 0 0 0,.agg (GState.encS v1)] [(10000,0,.var [.sl (ab GNode.encS g_s.nodes),.sl (ab GTie.enc g_s.ties),.lit (.int .i64 g_s.horizon),.mp 10001 0]),(10001,0,.map (eM g_known))] (.lit (.bool res.1)) [(10000,0,.var [.sl (ab GNode.encS g_s.nodes),.sl (ab GTie.enc g_s.ties),.lit (.int .i64 g_s.horizon),.mp 10001 0]),(10001,0,.map (eM res.2))]){g_s:GShow}{g_known:List (ByteArray × Bool)}{v1:GState}{res:(List Int) × Bool × (List (ByteArray × Bool))}(h:iy rec g_s g_known v1=some res):ak prog 207 [.ptr 10000 0 0 0,.agg (GState.encS v1)] [(10000,0,.var [.sl (ab GNode.encS g_s.nodes),.sl (ab GTie.enc g_s.ties),.lit (.int .i64 g_s.horizon),.mp 10001 0]),(10001,0,.map (eM g_known))] (.tup [.sl (ab eI res.1),.lit (.bool res.2.1)]) [(10000,0,.var [.sl (ab GNode.encS g_s.nodes),.sl (ab GTie.enc g_s.ties),.lit (.int .i64 g_s.horizon),.mp 10001 0]),(10001,0,.map (eM res.2.2))]:=by
 refine aB (ra:=[.nilSl 4]) (md:=mdT) hT (hi:=IH) func207 rfl rfl (by decide +kernel) (by simp) ?_
 unfold iy at h
 obtain⟨r01,g1,h⟩:=af h
 simp(config:=cS)only[go_sem]
 have g1:=ctr g1
 refine aj g1 ?_
 obtain⟨q04,l2,h⟩:=af h
 simp(config:=cS)only[go_sem]
 refine ah (m1:=.mk) (m2:=.mk) [.freeze [832],.nf [0,3,13,14,15] [10000,10001,192,832]] (ud (r01.length:Int) v1.now v1.times v1.values r01 g_s.nodes g_s.ties g_s.horizon) l2 ?_ ?_
 ·simp(config:=cS)only[go_sem]
 intro nb3 sb3 bb3 b3 gb3
 obtain⟨v15_1,h10001_1⟩:=sb3
 unfold gK at b3
 try dsimp only at b3
 obtain⟨h4,b3⟩|⟨h4,b3⟩:=aP b3
 ·obtain⟨x02,g5,b3⟩:=af b3
  obtain⟨h6,h7,h8⟩:=dO g5
  obtain⟨r03,g9,b3⟩:=af b3
  simp(config:=cS)only[go_sem,eqT h4,h6,h7,h8]
  refine aj (wT @hrec g9) ?_
  obtain⟨h10,b3⟩|⟨h10,b3⟩:=aP b3
  ·cases b3
   obtain rfl:=(aD gb3).symm
   try dsimp only at h
   cases h
   simp(config:=cS)only[go_sem,eqT h4,h6,h7,h8,eZt h10]
  cases b3
  simp(config:=cS)only[go_sem,eqT h4,h6,h7,h8,eZf h10]
  refine fA gb3 ?_
  simp(config:=cS)only[go_sem,eqT h4,h6,h7,h8,eZf h10]
 cases b3
 obtain rfl:=(aD gb3).symm
 try dsimp only at h
 cases h
 simp(config:=cS)only[go_sem,eqF h4]
end Go.Proofs.Qk
