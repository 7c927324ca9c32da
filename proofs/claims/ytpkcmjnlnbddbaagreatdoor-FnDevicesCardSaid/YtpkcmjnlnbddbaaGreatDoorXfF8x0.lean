/- Functions. -/
import Derived.Test.YtpkcmjnlnbddbaaGreatDoorXfFK2
set_option linter.all false
set_option maxRecDepth 100000
set_option maxHeartbeats 4000000
namespace Go.Proofs.Qf
open Go
def oM (a:List Int):(Int × Int)→St
 | (b,i)=>⟨[(0,.sl (ab (eK .u8) a)),(3,.lit (.int .i64 b)),(4,.lit (.int .i64 i))],[],2⟩
attribute [go_sem] oM
attribute [go_sem] Tryz.ntmps74 Tryz.results74
instance k74 {code:List Int}:Ctr (iY code) (fun (res:GL01Cur)=>aj Tryz.prog 74 [.sl (ab (eK .u8) code)] [] (.ptr 20000 1 0 0) [(20000,1,.var [.sl (ab (eK .u8) res.b),.lit (.int .i64 res.i),.lit (.int .i64 res.h)])]):=⟨by
 intro res h0
 refine co (hi:=hi00) Tryz.func74 rfl rfl ?_
 unfold iY at h0
 obtain ⟨q02,l0,h0⟩:=af h0
 simp(config:=cS)only[go_sem, *]
 refine ak (m1:=.mk) (m2:=.mk) [.nf [0,3,4] []] (oM code) l0 ?_ ?_
 ·simp(config:=cS)only[go_sem, *]
 ·have k0:=h0
  clear h0 l0
  intro _ s0 _ h0 gb0
  obtain ⟨v3_1,i_1⟩:=s0
  unfold iI at h0
  try dsimp only at h0
  exact run⟩
@[go_sem] def hi90_4:DT:=.r2 0 15 .nil
@[go_sem] def hi90_3:DT:=.r2 0 10 .nil
@[go_sem] def hi90_2:DT:=.r2 0 13 .nil
def hi90:Hint where
 acts:=fun _=>[]
 draws:=fun
  | 2=>⟨hi90_2,[[],[0],[0,1],[0,1,2],[0,1,2,3],[],[5],[5,6],[5,6,7],[5,6,7,8],.range 10,.range 11,.range 12],.range 13⟩
  | 3=>⟨hi90_3,[[],[0],[0,1],[0,1,2],[],[4],[4,5],[4,5,6],[4,5,6,7],.range 9],.range 10⟩
  | 4=>⟨hi90_4,[[],[],[1],[1,2],[1,2,3],[],[5],[5,6],[5,6,7],[1,2,3,4,5,6,7,8],[1,2,3,4,5,6,7,8,9],[1,2,3,4,5,6,7,8,9,10],.range 12,.range 13,.range 14],.range 15⟩
  | _=>⟨.nil,[],[]⟩
theorem SK (i:Nat):hi90.acts i=[]:=rfl
theorem SL (i:Nat):hi90.views i=none:=rfl
attribute [go_sem] SK SL Tryz.ntmps90 Tryz.results90
@[go_sem] theorem Wk:(hi90.draws 2).order=hi90_2:=rfl
@[go_sem] theorem Wl:(hi90.draws 3).order=hi90_3:=rfl
@[go_sem] theorem Wm:(hi90.draws 4).order=hi90_4:=rfl
instance k90 {v0:GL01Cur}:Ctr (bS v0) (fun (res:Int × GL01Cur)=>aj Tryz.prog 90 [.ptr 10000 0 0 0] [(10000,0,.var [.sl (ab (eK .u8) v0.b),.lit (.int .i64 v0.i),.lit (.int .i64 v0.h)])] (.lit (.int .i64 res.1)) [(10000,0,.var [.sl (ab (eK .u8) res.2.b),.lit (.int .i64 res.2.i),.lit (.int .i64 res.2.h)])]):=⟨by
 intro res h0
 refine co (hi:=hi90) Tryz.func90 rfl rfl ?_
 unfold bS at h0
 exact run⟩
attribute [go_sem] Tryz.ntmps111 Tryz.results111
instance k111 {v0:GL01Cur} {n:Int}:Ctr (cn v0 n) (fun (res:Int × GL01Cur)=>aj Tryz.prog 111 [.ptr 10000 0 0 0,.lit (.int .i64 n)] [(10000,0,.var [.sl (ab (eK .u8) v0.b),.lit (.int .i64 v0.i),.lit (.int .i64 v0.h)])] (.lit (.int .i64 res.1)) [(10000,0,.var [.sl (ab (eK .u8) res.2.b),.lit (.int .i64 res.2.i),.lit (.int .i64 res.2.h)])]):=⟨by
 intro res h0
 refine co (hi:=hi00) Tryz.func111 rfl rfl ?_
 unfold cn at h0
 exact run⟩
attribute [go_sem] Tryz.ntmps112 Tryz.results112
instance k112 {v0:GL01Cur} {n:Int}:Ctr (kh v0 n) (fun (res:Bool × GL01Cur)=>aj Tryz.prog 112 [.ptr 10000 0 0 0,.lit (.int .i64 n)] [(10000,0,.var [.sl (ab (eK .u8) v0.b),.lit (.int .i64 v0.i),.lit (.int .i64 v0.h)])] (.lit (.bool res.1)) [(10000,0,.var [.sl (ab (eK .u8) res.2.b),.lit (.int .i64 res.2.i),.lit (.int .i64 res.2.h)])]):=⟨by
 intro res h0
 refine co (hi:=hi00) Tryz.func112 rfl rfl ?_
 unfold kh at h0
 exact run⟩
@[go_sem] def hi45_5:DT:=.i1 0 (.i1 1 (.i2 2 (.i0 3 [0,1] (.i2 4 (.i0 5 [0,1] (.r2 6 3 .nil))))))
@[go_sem] def hi45_4:DT:=.i1 0 (.i1 1 (.i2 2 (.r2 5 3 (.i2 10 (.i0 3 [0,1] (.i2 4 (.i0 8 [0,1] (.i2 9 (.i0 11 [0,1] (.i2 12 (.i0 13 [0,1] (.r2 14 3 .nil))))))))))))
def hi45:Hint where
 acts:=fun _=>[]
 draws:=fun
  | 4=>⟨hi45_4,[[],[0],[],[2],[2,3],[],[],[],[2,3,7],[2,3,6,7,8],[],[2,3,7,8,10],[2,3,4,5,6,7,8,9,10,11],[2,3,4,5,6,7,8,9,10,11,12],.range 14,.range 15,.range 16],.range 17⟩
  | 5=>⟨hi45_5,[[],[0],[],[2],[2,3],[2,3,4],.range 6,.range 7,.range 8],.range 9⟩
  | _=>⟨.nil,[],[]⟩
theorem SM (i:Nat):hi45.acts i=[]:=rfl
theorem SN (i:Nat):hi45.views i=none:=rfl
attribute [go_sem] SM SN Tryz.ntmps45 Tryz.results45
@[go_sem] theorem Wn:(hi45.draws 4).order=hi45_4:=rfl
@[go_sem] theorem Wo:(hi45.draws 5).order=hi45_5:=rfl
instance k45 {code:List Int}:Ctr (iL code) (fun (res:GSheet)=>aj Tryz.prog 45 [.sl (ab (eK .u8) code)] [] (.agg [.ref 20000 1 0 res.cues.length,.ref 20001 1 0 res.prep.length,.lit (.int .i64 res.horizon)]) [(20000,1,.row true (ab GCue.enc res.cues)),(20001,1,.row true (ab eI res.prep))]):=⟨by
 intro res h0
 refine aE (ra:=[.homeCell 128 0,.homeCell 128 1]) (md:=mdT) hT (hi:=hi45) Tryz.func45 rfl rfl (by decide +kernel) (by simp) ?_
 unfold iL at h0
 exact run⟩
attribute [go_sem] Tryz.ntmps100 Tryz.results100
instance k100 {n:Int} {most:Int}:Ctr (bT n most) (fun (res:Bool)=>aj Tryz.prog 100 [.lit (.int .i64 n),.lit (.int .i64 most)] [] (.lit (.bool res)) []):=⟨by
 intro res h0
 refine co (hi:=hi00) Tryz.func100 rfl rfl ?_
 unfold bT at h0
 exact run⟩
attribute [go_sem] Tryz.ntmps196 Tryz.results196
instance k196 {v0:GCue} {index:Int}:Ctr (lI v0 index) (fun (res:Bool)=>aj Tryz.prog 196 [.agg (GCue.enc v0),.lit (.int .i64 index)] [] (.lit (.bool res)) []):=⟨by
 intro res h0
 refine co (hi:=hi00) Tryz.func196 rfl rfl ?_
 unfold lI at h0
 exact run⟩
def jQ (c:List GCue)(a:Nat)(b:List AV)(d e:Int):St:=⟨[(0,.sl (ab GCue.enc c)),(1,.fn a b),(7,.lit (.int .i64 d)),(8,.lit (.int .i64 e))],[],2⟩
attribute [go_sem] jQ
attribute [go_sem] Tryz.ntmps267 Tryz.results267
theorem rQ {v0:List GCue}{v1:GCue→Option Bool}{f_v1:Nat}{k_v1:List AV}(hp_v1:∀ y0 r,v1 y0=some r→aj Tryz.prog f_v1 ([.agg (GCue.enc y0)]++k_v1) [] (.lit (.bool r)) [])(hc_v1:KC k_v1)(hm_v1:∀ a,mdT f_v1 a=⟨[],false⟩)(hk_v1:spf f_v1=false){res:Int}(h:dV v0 v1=some res):aj Tryz.prog 267 [.sl (ab GCue.enc v0),.fn f_v1 k_v1] [] (.lit (.int .i64 res)) []:=by
 refine co (hi:=hi00) Tryz.func267 rfl rfl ?_
 unfold dV at h
 obtain ⟨q03,l1,h⟩:=af h
 simp(config:=cS)only[go_sem,hc_v1.1,hc_v1.2,hm_v1,hk_v1]
 refine ak (m1:=.mk) (m2:=.mk) [.nf [0,1,7,8] []] (jQ v0 f_v1 k_v1 ((v0.length:Nat):Int)) l1 ?_ ?_
 ·simp(config:=cS)only[go_sem,hc_v1.1,hc_v1.2,hm_v1,hk_v1]
 ·intro nb2 v8_1 bb2 b2 gb2
  unfold cd at b2
  try dsimp only at b2
  obtain ⟨h3,b2⟩|⟨h3,b2⟩:=bq b2
  ·obtain ⟨x01,g4,b2⟩:=af b2
   obtain ⟨h5,h6,h7⟩:=dK g4
   obtain ⟨r02,g8,b2⟩:=af b2
   simp(config:=cS)only[go_sem,hc_v1.1,hc_v1.2,hm_v1,hk_v1,eqT h3,h5,h6,h7]
   refine ah (hp_v1 _ _ g8) ?_
   obtain ⟨h9,b2⟩|⟨h9,b2⟩:=bq b2
   ·cases b2
    obtain rfl:=(bc gb2).symm
    try dsimp only at h
    cases h
    simp(config:=cS)only[go_sem,hc_v1.1,hc_v1.2,hm_v1,hk_v1,eqT h3,h5,h6,h7,eZt h9]
   ·cases b2
    simp(config:=cS)only[go_sem,hc_v1.1,hc_v1.2,hm_v1,hk_v1,eqT h3,h5,h6,h7,eZf h9]
    refine io gb2 ?_
    simp(config:=cS)only[go_sem,hc_v1.1,hc_v1.2,hm_v1,hk_v1,eqT h3,h5,h6,h7,eZf h9]
  ·cases b2
   obtain rfl:=(bc gb2).symm
   try dsimp only at h
   cases h
   simp(config:=cS)only[go_sem,hc_v1.1,hc_v1.2,hm_v1,hk_v1,eqF h3]
attribute [go_sem] Tryz.ntmps268 Tryz.results268
instance k268 {v0:GCue} {name:ByteArray}:Ctr (jt v0 name) (fun (res:Bool)=>aj Tryz.prog 268 [.agg (GCue.enc v0),.loc [.lit (.string name)]] [] (.lit (.bool res)) []):=⟨by
 intro res h0
 refine co (hi:=hi00) Tryz.func268 rfl rfl ?_
 unfold jt at h0
 exact run⟩
attribute [go_sem] Tryz.ntmps197 Tryz.results197
instance k197 {t:GSheet} {name:ByteArray}:Ctr (ju t name) (fun (res:Int)=>aj Tryz.prog 197 [.agg (GSheet.encS t),.lit (.string name)] [] (.lit (.int .i64 res)) []):=⟨by
 intro res h0
 refine co (hi:=hi00) Tryz.func197 rfl rfl ?_
 unfold ju at h0
 obtain ⟨r01,g0,h0⟩:=af h0
 simp(config:=cS)only[go_sem, *]
 refine ah (rQ (by exact fun _ _ hr=>by have q:=ctr hr;exact q) (by refine ⟨fun _=>?_,fun _=>?_⟩ <;> simp only [go_sem]) (fun _=>rfl) rfl g0) ?_
 exact run⟩
attribute [go_sem] Tryz.ntmps198 Tryz.results198
instance k198 {n:Int}:Ctr (jL n) (fun (res:Bool)=>aj Tryz.prog 198 [.lit (.int .i64 n)] [] (.lit (.bool res)) []):=⟨by
 intro res h0
 refine co (hi:=hi00) Tryz.func198 rfl rfl ?_
 unfold jL at h0
 exact run⟩
def nR (a:List GCue)(d:Int)(b:List Int)(c e:Int):St:=⟨[(1,.ptr 64 1 0 0),(6,.sl (ab GCue.enc a)),(7,.lit (.int .i64 d)),(8,.lit (.int .i64 e))],[(64,1,.var [.sl (ab GCue.enc a),.sl (ab eI b),.lit (.int .i64 c)])],2⟩
attribute [go_sem] nR
attribute [go_sem] Tryz.ntmps113 Tryz.results113
instance k113 {t:GSheet}:Ctr (fW t) (fun (res:Bool)=>aj Tryz.prog 113 [.agg (GSheet.encS t)] [] (.lit (.bool res)) []):=⟨by
 intro res h0
 refine co (hi:=hi00) Tryz.func113 rfl rfl ?_
 unfold fW at h0
 obtain ⟨q05,l0,h0⟩:=af h0
 simp(config:=cS)only[go_sem, *]
 refine ak (m1:=.mk) (m2:=.mk) [.nf [1,6,7,8] [64]] (nR t.cues ((t.cues.length:Nat):Int) t.prep t.horizon) l0 ?_ ?_
 ·simp(config:=cS)only[go_sem, *]
 ·have k0:=h0
  clear h0 l0
  intro _ v8_1 _ h0 gb0
  unfold fk at h0
  try dsimp only at h0
  obtain ⟨_,h0⟩|⟨_,h0⟩:=itP h0
  ·exact run
  ·cases h0
   obtain rfl:=(bc gb0).symm
   clear gb0
   have h0:=k0
   clear k0
   try dsimp only at h0
   obtain ⟨_,h0⟩|⟨_,h0⟩:=itP h0
   ·exact run
   ·obtain ⟨_,h0⟩|⟨_,h0⟩:=itP h0
    ·obtain ⟨_,h0⟩|⟨_,h0⟩:=itP h0
     ·exact run
     ·obtain ⟨_,h0⟩|⟨_,h0⟩:=itP h0
      ·exact run
      ·obtain ⟨r04,g0,h0⟩:=af h0
       simp(config:=cS)only[go_sem, *]
       refine ah (bY (by exact fun _ _ hr=>by have q:=ctr hr;exact q) (by refine ⟨fun _=>?_,fun _=>?_⟩ <;> simp only [go_sem]) (fun _=>rfl) rfl g0) ?_
       exact run
    ·exact run⟩
def oN (c:List GCue)(d:Int):(Int × Int × (List Int) × (List Int))→St
 | (n,e,a,b)=>⟨[(5,.ref 383 1 0 a.length),(6,.ref 447 1 0 b.length),(7,.lit (.int .i64 n)),(11,.sl (ab GCue.enc c)),(12,.lit (.int .i64 d)),(13,.lit (.int .i64 e))],[(383,1,.row true (ab eI a)),(447,1,.row true (ab eI b))],2⟩
attribute [go_sem] oN
attribute [go_sem] Tryz.ntmps114 Tryz.results114
instance k114 {t:GSheet}:Ctr (gJ t) (fun (res:(List Int) × (List Int) × Int)=>aj Tryz.prog 114 [.agg (GSheet.encS t)] [] (.tup [.ref 20000 1 0 res.1.length,.ref 20001 1 0 res.2.1.length,.lit (.int .i64 res.2.2)]) [(20000,1,.row true (ab eI res.1)),(20001,1,.row true (ab eI res.2.1))]):=⟨by
 intro res h0
 refine aE (ra:=[.home 2,.home 3]) (md:=mdT) hT (hi:=hi00) Tryz.func114 rfl rfl (by decide +kernel) (by simp) ?_
 unfold gJ at h0
 obtain ⟨q03,l0,h0⟩:=af h0
 simp(config:=cS)only[go_sem, *]
 refine ak (m1:=.mk) (m2:=.mk) [.home 5,.home 6,.nf [5,6,7,11,12,13] [383,447]] (oN t.cues ((t.cues.length:Nat):Int)) l0 ?_ ?_
 ·simp(config:=cS)only[go_sem, *]
 ·have k0:=h0
  clear h0 l0
  intro _ s0 _ h0 gb0
  obtain ⟨n_1,v13_1,begins_1,ends_1⟩:=s0
  unfold iM at h0
  try dsimp only at h0
  obtain ⟨_,h0⟩|⟨_,h0⟩:=itP h0
  ·obtain ⟨x01,_,_,_,h0⟩:=gtI h0
   obtain ⟨_,h0⟩:=ckP h0
   obtain ⟨_,h0⟩:=ckP h0
   obtain ⟨_,h0⟩:=ckP h0
   obtain ⟨_,h0⟩:=ckP h0
   obtain ⟨_,h0⟩|⟨_,h0⟩:=itP h0
   ·exact run
   ·obtain ⟨x02,a1,a2,a3,h0⟩:=gtI h0
    try simp only [List.length_append,List.length_cons,List.length_nil,Nat.zero_add,Nat.reduceAdd] at a1
    try simp only [List.length_append,List.length_cons,List.length_nil,Nat.zero_add,Nat.reduceAdd] at a2
    try simp only [List.length_append,List.length_cons,List.length_nil,Nat.zero_add,Nat.reduceAdd] at a3
    exact run
  ·exact run⟩
attribute [go_sem] Tryz.ntmps115 Tryz.results115
instance k115 {v0:Int}:Ctr (eE v0) (fun (res:List Int)=>aj Tryz.prog 115 [.lit (.int .i64 v0)] [] (.ref 20000 1 0 res.length) [(20000,1,.row true (ab eI res))]):=⟨by
 intro res h0
 refine aE (ra:=[.home 2]) (md:=mdT) hT (hi:=hi00) Tryz.func115 rfl rfl (by decide +kernel) (by simp) ?_
 unfold eE at h0
 exact run⟩
attribute [go_sem] Tryz.ntmps116 Tryz.results116
instance k116 {begins:List Int} {ends:List Int} {cue:Int}:Ctr (lb begins ends cue) (fun (res:Int)=>aj Tryz.prog 116 [.sl (ab eI begins),.sl (ab eI ends),.lit (.int .i64 cue)] [] (.lit (.int .i64 res)) []):=⟨by
 intro res h0
 refine co (hi:=hi00) Tryz.func116 rfl rfl ?_
 unfold lb at h0
 exact run⟩
@[go_sem] def hi48_3:DT:=.r2 0 14 .nil
def hi48:Hint where
 acts:=fun _=>[]
 draws:=fun
  | 3=>⟨hi48_3,[[],[0],[],[0,1,2],[0,1,2,3],.range 5,[],[6],[],[6,7,8],[6,7,8,9],[6,7,8,9,10],.range 6,.range 13],[0,1,2,3,4,5,7,8,9,10,11,12,6,13]⟩
  | _=>⟨.nil,[],[]⟩
theorem SO (i:Nat):hi48.acts i=[]:=rfl
theorem SP (i:Nat):hi48.views i=none:=rfl
attribute [go_sem] SO SP Tryz.ntmps48 Tryz.results48
@[go_sem] theorem Wp:(hi48.draws 3).order=hi48_3:=rfl
instance k48 {t:GSheet} {i:Int} {k:Int}:Ctr (iw t i k) (fun (res:Bool)=>aj Tryz.prog 48 [.agg (GSheet.encS t),.lit (.int .i64 i),.lit (.int .i64 k)] [] (.lit (.bool res)) []):=⟨by
 intro res h0
 refine co (hi:=hi48) Tryz.func48 rfl rfl ?_
 unfold iw at h0
 exact run⟩
def bI (n i:Int)(f:List GCue)(v h:Int)(w:List Int)(g:Int)(j:ByteArray)(k:Int)(l:Bool)(m o p q:Int)(r:Bool)(s t e:Int)(b d:List Int)(c:List GNode):(Int × (List GTie))→St
 | (u,a)=>⟨[(1,.ptr 64 1 0 0),(2,.ptr 128 1 0 0),(4,.ref 1152 1 0 b.length),(5,.ref 1153 1 0 d.length),(6,.lit (.int .i64 n)),(7,.ptr 448 1 0 0),(8,.lit (.int .i64 i)),(9,.ptr 576 1 0 0),(28,.sl (ab GCue.enc f)),(29,.lit (.int .i64 v)),(30,.lit (.int .i64 i)),(119,.lit (.int .i64 h)),(120,.lit (.int .i64 u))],[(64,1,.var [.sl (ab GCue.enc f),.sl (ab eI w),.lit (.int .i64 g)]),(128,1,.var [.lit (.slice none 0 0),.lit (.slice none 0 0),.lit (.int .i64 0)]),(1152,1,.row true (ab eI b)),(1153,1,.row true (ab eI d)),(448,1,.var [.ref 1600 1 0 c.length,.ref 100028673 1 0 a.length,.lit (.int .i64 g)]),(1600,1,.row true (ab GNode.encO c)),(100028673,1,.row true (ab GTie.enc a)),(576,1,.var [.lit (.string j),.lit (.int .i64 k),.lit (.bool l),.lit (.int .i64 m),.lit (.int .i64 o),.lit (.int .i64 p),.lit (.int .i64 q),.lit (.bool r),.lit (.int .i64 s),.lit (.int .i64 t),.lit (.int .i64 e)])],2⟩
attribute [go_sem] bI
def ln (n:Int)(e:List GCue)(g:Int)(h:List Int)(f:Int)(b d:List Int):(Int × (List GNode) × (List GTie))→St
 | (i,c,a)=>⟨[(1,.ptr 64 1 0 0),(2,.ptr 128 1 0 0),(4,.ref 1152 1 0 b.length),(5,.ref 1153 1 0 d.length),(6,.lit (.int .i64 n)),(7,.ptr 448 1 0 0),(28,.sl (ab GCue.enc e)),(29,.lit (.int .i64 g)),(30,.lit (.int .i64 i))],[(64,1,.var [.sl (ab GCue.enc e),.sl (ab eI h),.lit (.int .i64 f)]),(128,1,.var [.lit (.slice none 0 0),.lit (.slice none 0 0),.lit (.int .i64 0)]),(1152,1,.row true (ab eI b)),(1153,1,.row true (ab eI d)),(448,1,.var [.ref 1600 1 0 c.length,.ref 100028673 1 0 a.length,.lit (.int .i64 f)]),(1600,1,.row true (ab GNode.encO c)),(100028673,1,.row true (ab GTie.enc a))],2⟩
attribute [go_sem] ln
@[go_sem] def hi46_22:DT:=.i1 0 (.i1 1 (.r2 2 3 (.i2 6 (.i2 7 (.i1 8 (.i1 9 (.i1 10 (.i1 11 (.i1 12 (.i1 13 (.i2 14 (.i1 15 (.i1 16 (.i0 5 [0,1,8,9,10,11,12,13,15,16] (.i2 17 (.i0 18 [0,1] (.r2 19 3 .nil)))))))))))))))))
@[go_sem] def hi46_21:DT:=.r2 0 20 .nil
@[go_sem] def hi46_17:DT:=.i1 0 (.i1 1 (.r2 2 15 (.i0 17 [0,1] (.r2 18 3 .nil))))
@[go_sem] def hi46_16:DT:=.i1 0 (.i1 1 (.i1 2 (.i1 3 (.r2 4 3 (.i0 7 [0,1,2,3] (.i2 8 (.i0 9 [0,1] (.r2 10 3 .nil))))))))
@[go_sem] def hi46_14:DT:=.i1 0 (.i1 1 (.r2 2 10 (.i0 12 [0,1] (.r2 13 3 .nil))))
@[go_sem] def hi46_8:DT:=.i1 0 (.i1 1 (.i1 2 (.i1 3 (.i2 4 (.i2 5 (.i1 7 (.i1 8 (.i0 6 [0,1,2,3,7,8] (.i2 9 (.i0 10 [0,1] (.r2 11 3 .nil)))))))))))
def hi46:Hint where
 acts:=fun _=>[]
 draws:=fun
  | 8=>⟨hi46_8,[[],[0],[],[2],[],[4],[4,5],[],[7],[2,3,4,5,6,7,8],[2,3,4,5,6,7,8,9],.range 11,.range 12,.range 13],.range 14⟩
  | 14=>⟨hi46_14,[[],[0],[],[],[],[3,4],[3,4,5],[],[7],[],[9],[2,3,4,5,6,7,8,9,10],[2,3,4,5,6,7,8,9,10,11],.range 13,.range 14,.range 15],.range 16⟩
  | 16=>⟨hi46_16,[[],[0],[],[2],[2,3],[],[5],[5,6],[2,3,4,5,6,7],[2,3,4,5,6,7,8],.range 10,.range 11,.range 12],.range 13⟩
  | 17=>⟨hi46_17,[[],[0],[],[],[2,3],[2,3,4],[],[],[6,7],[6,7,8],[],[10],[],[12],[],[14],[2,3,4,5,6,7,8,9,10,11,12,13,14,15],[2,3,4,5,6,7,8,9,10,11,12,13,14,15,16],.range 18,.range 19,.range 20],.range 21⟩
  | 21=>⟨hi46_21,[[],[0],[0,1],[0,1,2],[0,1,2,3],.range 5,[0,1,2,3],.range 7,.range 8,.range 9,[0,1,2,3],[0,1,2,3,10],.range 12,.range 13,.range 14,.range 15,.range 15,.range 15,.range 18,.range 19],.range 20⟩
  | 22=>⟨hi46_22,[[],[0],[],[],[],[2,3,4],[],[],[6,7],[6,7,8],[],[10],[],[12],[12,13],[10,11,12,13,14],[10,11,12,13,14,15],[2,3,4,5,6,7,8,9,10,11,12,13,14,15,16],[2,3,4,5,6,7,8,9,10,11,12,13,14,15,16,17],.range 19,.range 20,.range 21],.range 22⟩
  | _=>⟨.nil,[],[]⟩
theorem SQ (i:Nat):hi46.acts i=[]:=rfl
theorem SR (i:Nat):hi46.views i=none:=rfl
attribute [go_sem] SQ SR Tryz.ntmps46 Tryz.results46
@[go_sem] theorem Wq:(hi46.draws 8).order=hi46_8:=rfl
@[go_sem] theorem Vc:(hi46.draws 14).order=hi46_14:=rfl
@[go_sem] theorem Vd:(hi46.draws 16).order=hi46_16:=rfl
@[go_sem] theorem Ve:(hi46.draws 17).order=hi46_17:=rfl
@[go_sem] theorem Vf:(hi46.draws 21).order=hi46_21:=rfl
@[go_sem] theorem Vg:(hi46.draws 22).order=hi46_22:=rfl
instance k46 {t:GSheet}:Ctr (fH t) (fun (res:GShow × Int)=>aj Tryz.prog 46 [.agg (GSheet.encS t)] [] (.tup [.agg [.ref 20000 1 0 res.1.nodes.length,.ref 20001 1 0 res.1.ties.length,.lit (.int .i64 res.1.horizon)],.lit (.int .i64 res.2)]) [(20000,1,.row true (ab GNode.encO res.1.nodes)),(20001,1,.row true (ab GTie.enc res.1.ties))]):=⟨by
 intro res h0
 refine aE (ra:=[.homeCell 128 0,.homeCell 128 1]) (md:=mdT) hT (hi:=hi46) Tryz.func46 rfl rfl (by decide +kernel) (by simp) ?_
 unfold fH at h0
 obtain ⟨r01,g0,h0⟩:=af h0
 simp(config:=cS)only[go_sem, *]
 have g0:=ctr g0
 refine ah g0 ?_
 obtain ⟨_,h0⟩|⟨_,h0⟩:=itB h0
 ·obtain ⟨r02,g0,h0⟩:=af h0
  simp(config:=cS)only[go_sem, *]
  have g0:=ctr g0
  refine ah g0 ?_
  obtain ⟨q53,l0,h0⟩:=af h0
  simp(config:=cS)only[go_sem, *]
  refine ak (m1:=.mk) (m2:=.mk) [.homeCell 448 1,.nf [1,2,4,5,6,7,28,29,30] [64,128,1152,1153,448,1600,100028673]] (ln r02.2.2 t.cues ((t.cues.length:Nat):Int) t.prep t.horizon r02.1 r02.2.1) l0 ?_ ?_
  ·simp(config:=cS)only[go_sem, *]
  ·have k0:=h0
   clear h0 l0
   intro _ s0 _ h0 gb0
   obtain ⟨v30_1,h1600_1,h100028673_1⟩:=s0
   unfold cQ at h0
   try dsimp only at h0
   obtain ⟨_,h0⟩|⟨_,h0⟩:=itP h0
   ·obtain ⟨x03,_,_,_,h0⟩:=gtI h0
    obtain ⟨r04,g0,h0⟩:=af h0
    simp(config:=cS)only[go_sem, *]
    have g0:=ctr g0
    refine ah g0 ?_
    obtain ⟨_,h0⟩:=ckP h0
    obtain ⟨_,h0⟩:=ckP h0
    obtain ⟨_,h0⟩|⟨_,h0⟩:=itB h0
    ·obtain ⟨r05,g0,h0⟩:=af h0
     simp(config:=cS)only[go_sem, *]
     have g0:=ctr g0
     refine ah g0 ?_
     obtain ⟨x06,_,e1,_,h0⟩:=gtI h0
     obtain ⟨_,h0⟩:=ckP h0
     obtain ⟨_,h0⟩:=ckP h0
     obtain ⟨_,h0⟩|⟨_,h0⟩:=itP h0
     ·obtain ⟨_,h0⟩:=ckP h0
      obtain ⟨_,h0⟩:=ckP h0
      obtain ⟨q12,l0,h0⟩:=af h0
      simp(config:=cS)only[go_sem, *]
      refine ak (m1:=.mk) (m2:=.mk) [.nf [1,2,4,5,6,7,8,9,28,29,30,119,120] [64,128,1152,1153,448,1600,100028673,576]] (bI r02.2.2 v30_1 t.cues ((t.cues.length:Nat):Int) (((t.cues.take v30_1.toNat).length:Nat):Int) t.prep t.horizon x03.name x03.after x03.atEnd x03.low x03.high x03.min_ x03.max_ x03.free x03.if_ x03.watch x03.device r02.1 r02.2.1 (h1600_1++([(GNode.mk x03.name r04 x03.watch)]))) l0 ?_ ?_
      ·simp(config:=cS)only[go_sem, *]
      ·have k0:=h0
       clear h0 l0
       intro _ s0 _ h0 gb0
       obtain ⟨v120_2,h100028673_2⟩:=s0
       unfold aJ at h0
       try dsimp only at h0
       obtain ⟨_,h0⟩|⟨_,h0⟩:=itP h0
       ·obtain ⟨_,h0⟩|⟨_,h0⟩:=itP h0
        ·exact run
        ·obtain ⟨x07,_,_,_,h0⟩:=gtI h0
         obtain ⟨_,h0⟩|⟨_,h0⟩:=itP h0
         ·obtain ⟨r08,g0,h0⟩:=af h0
          simp(config:=cS)only[go_sem, *]
          have g0:=ctr g0
          refine ah g0 ?_
          obtain ⟨_,h0⟩|⟨_,h0⟩:=itB h0
          ·obtain ⟨x09,_,e2,_,h0⟩:=gtI h0
           obtain rfl:=Option.some.inj (e1.symm.trans e2)
           exact run
          ·exact run
         ·exact run
       ·exact run
     ·obtain ⟨_,h0⟩:=ckP h0
      obtain ⟨r13,g0,h0⟩:=af h0
      simp(config:=cS)only[go_sem, *]
      have g0:=ctr g0
      refine ah g0 ?_
      obtain ⟨a3,h0⟩:=ckP h0
      try simp(config:=cS)only[go_sem] at a3
      obtain ⟨a4,h0⟩:=ckP h0
      try simp(config:=cS)only[go_sem] at a4
      obtain ⟨x14,_,_,_,h0⟩:=gtI h0
      obtain ⟨a5,h0⟩:=ckP h0
      try simp(config:=cS)only[go_sem] at a5
      obtain ⟨a6,h0⟩:=ckP h0
      try simp(config:=cS)only[go_sem] at a6
      obtain ⟨_,h0⟩:=ckP h0
      obtain ⟨_,h0⟩:=ckP h0
      obtain ⟨q20,l0,h0⟩:=af h0
      simp(config:=cS)only[go_sem, *]
      refine ak (m1:=.mk) (m2:=.mk) [.nf [1,2,4,5,6,7,8,9,28,29,30,119,120] [64,128,1152,1153,448,1600,100028673,576]] (bI r02.2.2 v30_1 t.cues ((t.cues.length:Nat):Int) (((t.cues.take v30_1.toNat).length:Nat):Int) t.prep t.horizon x03.name x03.after x03.atEnd x03.low x03.high x03.min_ x03.max_ x03.free x03.if_ x03.watch x03.device r02.1 r02.2.1 ((h1600_1++([(GNode.mk x03.name r04 x03.watch)]))++([(GNode.mk (x03.name++(ByteArray.mk #[122])) r13 0)]))) l0 ?_ ?_
      ·simp(config:=cS)only[go_sem, *]
      ·have k0:=h0
       clear h0 l0
       intro _ s0 _ h0 gb0
       obtain ⟨v120_3,h100028673_3⟩:=s0
       unfold aJ at h0
       try dsimp only at h0
       obtain ⟨_,h0⟩|⟨_,h0⟩:=itP h0
       ·obtain ⟨_,h0⟩|⟨_,h0⟩:=itP h0
        ·exact run
        ·obtain ⟨x15,_,_,_,h0⟩:=gtI h0
         obtain ⟨_,h0⟩|⟨_,h0⟩:=itP h0
         ·obtain ⟨r16,g0,h0⟩:=af h0
          simp(config:=cS)only[go_sem, *]
          have g0:=ctr g0
          refine ah g0 ?_
          obtain ⟨_,h0⟩|⟨_,h0⟩:=itB h0
          ·obtain ⟨x17,_,e7,_,h0⟩:=gtI h0
           obtain rfl:=Option.some.inj (e1.symm.trans e7)
           exact run
          ·exact run
         ·exact run
       ·exact run
    ·obtain ⟨_,h0⟩|⟨_,h0⟩:=itP h0
     ·obtain ⟨x21,_,_,_,h0⟩:=gtI h0
      obtain ⟨x22,_,e8,_,h0⟩:=gtI h0
      obtain ⟨_,h0⟩:=ckP h0
      obtain ⟨_,h0⟩:=ckP h0
      obtain ⟨_,h0⟩|⟨_,h0⟩:=itP h0
      ·obtain ⟨_,h0⟩:=ckP h0
       obtain ⟨_,h0⟩:=ckP h0
       obtain ⟨q28,l0,h0⟩:=af h0
       simp(config:=cS)only[go_sem, *]
       refine ak (m1:=.mk) (m2:=.mk) [.nf [1,2,4,5,6,7,8,9,28,29,30,119,120] [64,128,1152,1153,448,1600,100028673,576]] (bI r02.2.2 v30_1 t.cues ((t.cues.length:Nat):Int) (((t.cues.take v30_1.toNat).length:Nat):Int) t.prep t.horizon x03.name x03.after x03.atEnd x03.low x03.high x03.min_ x03.max_ x03.free x03.if_ x03.watch x03.device r02.1 r02.2.1 (h1600_1++([(GNode.mk x03.name r04 x03.watch)]))) l0 ?_ ?_
       ·simp(config:=cS)only[go_sem, *]
       ·have k0:=h0
        clear h0 l0
        intro _ s0 _ h0 gb0
        obtain ⟨v120_4,h100028673_4⟩:=s0
        unfold aJ at h0
        try dsimp only at h0
        obtain ⟨_,h0⟩|⟨_,h0⟩:=itP h0
        ·obtain ⟨_,h0⟩|⟨_,h0⟩:=itP h0
         ·exact run
         ·obtain ⟨x23,_,_,_,h0⟩:=gtI h0
          obtain ⟨_,h0⟩|⟨_,h0⟩:=itP h0
          ·obtain ⟨r24,g0,h0⟩:=af h0
           simp(config:=cS)only[go_sem, *]
           have g0:=ctr g0
           refine ah g0 ?_
           obtain ⟨_,h0⟩|⟨_,h0⟩:=itB h0
           ·obtain ⟨x25,_,e9,_,h0⟩:=gtI h0
            obtain rfl:=Option.some.inj (e8.symm.trans e9)
            exact run
           ·exact run
          ·exact run
        ·exact run
      ·obtain ⟨_,h0⟩:=ckP h0
       obtain ⟨r29,g0,h0⟩:=af h0
       simp(config:=cS)only[go_sem, *]
       have g0:=ctr g0
       refine ah g0 ?_
       obtain ⟨a10,h0⟩:=ckP h0
       try simp(config:=cS)only[go_sem] at a10
       obtain ⟨a11,h0⟩:=ckP h0
       try simp(config:=cS)only[go_sem] at a11
       obtain ⟨x30,_,_,_,h0⟩:=gtI h0
       obtain ⟨a12,h0⟩:=ckP h0
       try simp(config:=cS)only[go_sem] at a12
       obtain ⟨a13,h0⟩:=ckP h0
       try simp(config:=cS)only[go_sem] at a13
       obtain ⟨_,h0⟩:=ckP h0
       obtain ⟨_,h0⟩:=ckP h0
       obtain ⟨q36,l0,h0⟩:=af h0
       simp(config:=cS)only[go_sem, *]
       refine ak (m1:=.mk) (m2:=.mk) [.nf [1,2,4,5,6,7,8,9,28,29,30,119,120] [64,128,1152,1153,448,1600,100028673,576]] (bI r02.2.2 v30_1 t.cues ((t.cues.length:Nat):Int) (((t.cues.take v30_1.toNat).length:Nat):Int) t.prep t.horizon x03.name x03.after x03.atEnd x03.low x03.high x03.min_ x03.max_ x03.free x03.if_ x03.watch x03.device r02.1 r02.2.1 ((h1600_1++([(GNode.mk x03.name r04 x03.watch)]))++([(GNode.mk (x03.name++(ByteArray.mk #[122])) r29 0)]))) l0 ?_ ?_
       ·simp(config:=cS)only[go_sem, *]
       ·have k0:=h0
        clear h0 l0
        intro _ s0 _ h0 gb0
        obtain ⟨v120_5,h100028673_5⟩:=s0
        unfold aJ at h0
        try dsimp only at h0
        obtain ⟨_,h0⟩|⟨_,h0⟩:=itP h0
        ·obtain ⟨_,h0⟩|⟨_,h0⟩:=itP h0
         ·exact run
         ·obtain ⟨x31,_,_,_,h0⟩:=gtI h0
          obtain ⟨_,h0⟩|⟨_,h0⟩:=itP h0
          ·obtain ⟨r32,g0,h0⟩:=af h0
           simp(config:=cS)only[go_sem, *]
           have g0:=ctr g0
           refine ah g0 ?_
           obtain ⟨_,h0⟩|⟨_,h0⟩:=itB h0
           ·obtain ⟨x33,_,e14,_,h0⟩:=gtI h0
            obtain rfl:=Option.some.inj (e8.symm.trans e14)
            exact run
           ·exact run
          ·exact run
        ·exact run
     ·obtain ⟨x37,_,e15,_,h0⟩:=gtI h0
      obtain ⟨_,h0⟩:=ckP h0
      obtain ⟨_,h0⟩:=ckP h0
      obtain ⟨_,h0⟩|⟨_,h0⟩:=itP h0
      ·obtain ⟨_,h0⟩:=ckP h0
       obtain ⟨_,h0⟩:=ckP h0
       obtain ⟨q43,l0,h0⟩:=af h0
       simp(config:=cS)only[go_sem, *]
       refine ak (m1:=.mk) (m2:=.mk) [.nf [1,2,4,5,6,7,8,9,28,29,30,119,120] [64,128,1152,1153,448,1600,100028673,576]] (bI r02.2.2 v30_1 t.cues ((t.cues.length:Nat):Int) (((t.cues.take v30_1.toNat).length:Nat):Int) t.prep t.horizon x03.name x03.after x03.atEnd x03.low x03.high x03.min_ x03.max_ x03.free x03.if_ x03.watch x03.device r02.1 r02.2.1 (h1600_1++([(GNode.mk x03.name r04 x03.watch)]))) l0 ?_ ?_
       ·simp(config:=cS)only[go_sem, *]
       ·have k0:=h0
        clear h0 l0
        intro _ s0 _ h0 gb0
        obtain ⟨v120_6,h100028673_6⟩:=s0
        unfold aJ at h0
        try dsimp only at h0
        obtain ⟨_,h0⟩|⟨_,h0⟩:=itP h0
        ·obtain ⟨_,h0⟩|⟨_,h0⟩:=itP h0
         ·exact run
         ·obtain ⟨x38,_,_,_,h0⟩:=gtI h0
          obtain ⟨_,h0⟩|⟨_,h0⟩:=itP h0
          ·obtain ⟨r39,g0,h0⟩:=af h0
           simp(config:=cS)only[go_sem, *]
           have g0:=ctr g0
           refine ah g0 ?_
           obtain ⟨_,h0⟩|⟨_,h0⟩:=itB h0
           ·obtain ⟨x40,_,e16,_,h0⟩:=gtI h0
            obtain rfl:=Option.some.inj (e15.symm.trans e16)
            exact run
           ·exact run
          ·exact run
        ·exact run
      ·obtain ⟨_,h0⟩:=ckP h0
       obtain ⟨r44,g0,h0⟩:=af h0
       simp(config:=cS)only[go_sem, *]
       have g0:=ctr g0
       refine ah g0 ?_
       obtain ⟨a17,h0⟩:=ckP h0
       try simp(config:=cS)only[go_sem] at a17
       obtain ⟨a18,h0⟩:=ckP h0
       try simp(config:=cS)only[go_sem] at a18
       obtain ⟨x45,_,_,_,h0⟩:=gtI h0
       obtain ⟨a19,h0⟩:=ckP h0
       try simp(config:=cS)only[go_sem] at a19
       obtain ⟨a20,h0⟩:=ckP h0
       try simp(config:=cS)only[go_sem] at a20
       obtain ⟨_,h0⟩:=ckP h0
       obtain ⟨_,h0⟩:=ckP h0
       obtain ⟨q51,l0,h0⟩:=af h0
       simp(config:=cS)only[go_sem, *]
       refine ak (m1:=.mk) (m2:=.mk) [.nf [1,2,4,5,6,7,8,9,28,29,30,119,120] [64,128,1152,1153,448,1600,100028673,576]] (bI r02.2.2 v30_1 t.cues ((t.cues.length:Nat):Int) (((t.cues.take v30_1.toNat).length:Nat):Int) t.prep t.horizon x03.name x03.after x03.atEnd x03.low x03.high x03.min_ x03.max_ x03.free x03.if_ x03.watch x03.device r02.1 r02.2.1 ((h1600_1++([(GNode.mk x03.name r04 x03.watch)]))++([(GNode.mk (x03.name++(ByteArray.mk #[122])) r44 0)]))) l0 ?_ ?_
       ·simp(config:=cS)only[go_sem, *]
       ·have k0:=h0
        clear h0 l0
        intro _ s0 _ h0 gb0
        obtain ⟨v120_7,h100028673_7⟩:=s0
        unfold aJ at h0
        try dsimp only at h0
        obtain ⟨_,h0⟩|⟨_,h0⟩:=itP h0
        ·obtain ⟨_,h0⟩|⟨_,h0⟩:=itP h0
         ·exact run
         ·obtain ⟨x46,_,_,_,h0⟩:=gtI h0
          obtain ⟨_,h0⟩|⟨_,h0⟩:=itP h0
          ·obtain ⟨r47,g0,h0⟩:=af h0
           simp(config:=cS)only[go_sem, *]
           have g0:=ctr g0
           refine ah g0 ?_
           obtain ⟨_,h0⟩|⟨_,h0⟩:=itB h0
           ·obtain ⟨x48,_,e21,_,h0⟩:=gtI h0
            obtain rfl:=Option.some.inj (e15.symm.trans e21)
            exact run
           ·exact run
          ·exact run
        ·exact run
   ·exact run
 ·exact run⟩
def nS (a:Int)(e:List GCue)(c:Int):(Int × (List Int))→St
 | (d,b)=>⟨[(1,.lit (.int .i64 a)),(5,.ref 383 1 0 b.length),(9,.sl (ab GCue.enc e)),(10,.lit (.int .i64 c)),(11,.lit (.int .i64 d))],[(383,1,.row true (ab eI b))],2⟩
attribute [go_sem] nS
attribute [go_sem] Tryz.ntmps47 Tryz.results47
instance k47 {t:GSheet} {device:Int}:Ctr (ki t device) (fun (res:List Int)=>aj Tryz.prog 47 [.agg (GSheet.encS t),.lit (.int .i64 device)] [] (.ref 20000 1 0 res.length) [(20000,1,.row true (ab eI res))]):=⟨by
 intro res h0
 refine aE (ra:=[.home 4]) (md:=mdT) hT (hi:=hi00) Tryz.func47 rfl rfl (by decide +kernel) (by simp) ?_
 unfold ki at h0
 obtain ⟨q02,l0,h0⟩:=af h0
 simp(config:=cS)only[go_sem, *]
 refine ak (m1:=.mk) (m2:=.mk) [.home 5,.nf [1,5,9,10,11] [383]] (nS device t.cues ((t.cues.length:Nat):Int)) l0 ?_ ?_
 ·simp(config:=cS)only[go_sem, *]
 ·have k0:=h0
  clear h0 l0
  intro _ s0 _ h0 gb0
  obtain ⟨v11_1,out_1⟩:=s0
  unfold hY at h0
  try dsimp only at h0
  exact run⟩
def oO (n:Int):(Int × (List Int) × Int × Int)→St
 | (i,a,b,c)=>⟨[(1,.lit (.int .i64 n)),(5,.ptr 512 1 0 0),(6,.lit (.int .i64 i))],[(512,1,.var [.sl (ab (eK .u8) a),.lit (.int .i64 b),.lit (.int .i64 c)])],2⟩
attribute [go_sem] oO
attribute [go_sem] Tryz.ntmps89 Tryz.results89
instance k89 {code:List Int} {n:Int}:Ctr (kW code n) (fun (res:GL01Cur)=>aj Tryz.prog 89 [.sl (ab (eK .u8) code),.lit (.int .i64 n)] [] (.ptr 20000 1 0 0) [(20000,1,.var [.sl (ab (eK .u8) res.b),.lit (.int .i64 res.i),.lit (.int .i64 res.h)])]):=⟨by
 intro res h0
 refine co (hi:=hi00) Tryz.func89 rfl rfl ?_
 unfold kW at h0
 obtain ⟨r01,g0,h0⟩:=af h0
 simp(config:=cS)only[go_sem, *]
 have g0:=ctr g0
 refine ah g0 ?_
 obtain ⟨q03,l0,h0⟩:=af h0
 simp(config:=cS)only[go_sem, *]
 refine ak (m1:=.mk) (m2:=.mk) [.nf [1,5,6] [512]] (oO n) l0 ?_ ?_
 ·simp(config:=cS)only[go_sem, *]
 ·have k0:=h0
  clear h0 l0
  intro _ s0 _ h0 gb0
  obtain ⟨i_1,v5_0_1,v5_1_1,v5_2_1⟩:=s0
  unfold iJ at h0
  try dsimp only at h0
  exact run⟩
attribute [go_sem] Tryz.ntmps29 Tryz.results29
instance k29 {code:List Int} {n:Int}:Ctr (iv code n) (fun (res:Int)=>aj Tryz.prog 29 [.sl (ab (eK .u8) code),.lit (.int .i64 n)] [] (.lit (.int .i64 res)) []):=⟨by
 intro res h0
 refine co (hi:=hi00) Tryz.func29 rfl rfl ?_
 unfold iv at h0
 exact run⟩
@[go_sem] def hi26_1:DT:=.i1 0 (.i2 1 (.i2 2 (.i1 4 (.fork (.i0 3 [0,4] (.fork (.i0 5 [0] (.i2 6 (.fork (.i2 7 (.i2 8 (.i2 9 (.i2 10 (.i0 11 [0,4] (.i2 12 (.i2 13 .nil))))))) (.i0 11 [0,4] (.i2 7 (.i2 8 (.i2 9 (.i2 10 (.i2 12 (.i2 13 .nil)))))))))) (.i0 11 [0,4] (.i0 5 [0] (.i2 6 (.i2 7 (.i2 8 (.i2 9 (.i2 10 (.i2 12 (.i2 13 .nil))))))))))) (.i0 11 [0,4] (.i0 3 [0,4] (.i0 5 [0] (.i2 6 (.i2 7 (.i2 8 (.i2 9 (.i2 10 (.i2 12 (.i2 13 .nil))))))))))))))
def hi26:Hint where
 acts:=fun _=>[]
 draws:=fun
  | 1=>⟨hi26_1,[[],[],[],[1,2],[],[1,2,3,4],[1,2,3,4,5],.range 7,.range 8,.range 9,.range 9,[],[0,1,2,3,4,5,6,7,8,9,11],.range 13],[0,1,2,3,4,5,6,7,8,9,12,10,11,13]⟩
  | _=>⟨.nil,[],[]⟩
theorem SS (i:Nat):hi26.acts i=[]:=rfl
theorem ST (i:Nat):hi26.views i=none:=rfl
attribute [go_sem] SS ST Tryz.ntmps26 Tryz.results26
@[go_sem] theorem Wr:(hi26.draws 1).order=hi26_1:=rfl
instance k26 {code:List Int} {n:Int} {s:GShow}:Ctr (hU code n s) (fun (res:GChoice)=>aj Tryz.prog 26 [.sl (ab (eK .u8) code),.lit (.int .i64 n),.agg (GShow.encS s)] [] (.agg [.ref 20000 1 0 res.lengths.length,.ref 20001 1 0 res.values.length]) [(20000,1,.row true (ab eI res.lengths)),(20001,1,.row true (ab eI res.values))]):=⟨by
 intro res h0
 refine aE (ra:=[.homeCell 384 0,.homeCell 384 1]) (md:=mdT) hT (hi:=hi26) Tryz.func26 rfl rfl (by decide +kernel) (by simp) ?_
 unfold hU at h0
 try simp(config:=cS)only[go_sem, *]
 refine dR ?_ ?_
 ·obtain ⟨r01,g0,h0⟩:=af h0
  simp(config:=cS)only[go_sem, *]
  have g0:=ctr g0
  refine ah g0 ?_
  try simp(config:=cS)only[go_sem, *]
  refine dR ?_ ?_
  ·obtain ⟨r02,g0,h0⟩:=af h0
   simp(config:=cS)only[go_sem, *]
   have g0:=ctr g0
   refine ah g0 ?_
   obtain ⟨_,h0⟩:=ckN h0
   try simp(config:=cS)only[go_sem, *]
   refine dR ?_ ?_
   ·exact run
   ·exact run
  ·exact run
 ·exact run⟩
attribute [go_sem] Tryz.ntmps49 Tryz.results49
instance k49 {t:GSheet} {cue:Int}:Ctr (kj t cue) (fun (res:Int)=>aj Tryz.prog 49 [.agg (GSheet.encS t),.lit (.int .i64 cue)] [] (.lit (.int .i64 res)) []):=⟨by
 intro res h0
 refine co (hi:=hi00) Tryz.func49 rfl rfl ?_
 unfold kj at h0
 exact run⟩
attribute [go_sem] Tryz.ntmps50 Tryz.results50
instance k50 {t:GSheet} {cue:Int}:Ctr (iN t cue) (fun (res:Int)=>aj Tryz.prog 50 [.agg (GSheet.encS t),.lit (.int .i64 cue)] [] (.lit (.int .i64 res)) []):=⟨by
 intro res h0
 refine co (hi:=hi00) Tryz.func50 rfl rfl ?_
 unfold iN at h0
 exact run⟩
@[go_sem] def hi34_1:DT:=.r2 0 5 (.i1 6 (.i0 5 [6] (.r2 7 3 .nil)))
def hi34:Hint where
 acts:=fun _=>[]
 draws:=fun
  | 1=>⟨hi34_1,[[],[],[0,1],[0,1,2],[0,1,2,3],.range 5,[0,1,2,3],.range 7,.range 8,.range 9],.range 10⟩
  | _=>⟨.nil,[],[]⟩
theorem SU (i:Nat):hi34.acts i=[]:=rfl
theorem SV (i:Nat):hi34.views i=none:=rfl
attribute [go_sem] SU SV Tryz.ntmps34 Tryz.results34
@[go_sem] theorem Ws:(hi34.draws 1).order=hi34_1:=rfl
instance k34 {s:GShow} {v1:GState}:Ctr (kX s v1) (fun (res:Bool)=>aj Tryz.prog 34 [.agg (GShow.encS s),.agg (GState.encS v1)] [] (.lit (.bool res)) []):=⟨by
 intro res h0
 refine co (hi:=hi34) Tryz.func34 rfl rfl ?_
 unfold kX at h0
 obtain ⟨r01,g0,h0⟩:=af h0
 simp(config:=cS)only[go_sem, *]
 have g0:=ctr g0
 refine ah g0 ?_
 obtain ⟨_,h0⟩|⟨_,h0⟩:=itB h0
 ·obtain ⟨r02,g0,h0⟩:=af h0
  simp(config:=cS)only[go_sem, *]
  have g0:=ctr g0
  refine ah g0 ?_
  obtain ⟨r03,g0,h0⟩:=af h0
  simp(config:=cS)only[go_sem, *]
  refine ah (mP g0) ?_
  exact run
 ·exact run⟩
@[go_sem] def hi32_1:DT:=.i1 0 (.i2 1 (.i0 2 [0] (.i2 3 (.i2 4 .nil))))
def hi32:Hint where
 acts:=fun _=>[]
 draws:=fun
  | 1=>⟨hi32_1,[[],[],[1],[0,1,2],[0,1,2,3]],.range 5⟩
  | _=>⟨.nil,[],[]⟩
theorem SW (i:Nat):hi32.acts i=[]:=rfl
theorem SX (i:Nat):hi32.views i=none:=rfl
attribute [go_sem] SW SX Tryz.ntmps32 Tryz.results32
@[go_sem] theorem Wt:(hi32.draws 1).order=hi32_1:=rfl
instance k32 {s:GShow}:Ctr (iK s) (fun (res:Bool)=>aj Tryz.prog 32 [.agg (GShow.encS s)] [] (.lit (.bool res)) []):=⟨by
 intro res h0
 refine co (hi:=hi32) Tryz.func32 rfl rfl ?_
 unfold iK at h0
 exact run⟩
@[go_sem] def hi8_15:DT:=.r2 0 21 .nil
@[go_sem] def hi8_8:DT:=.i1 0 (.i1 1 (.i2 2 (.i0 3 [0,1] (.r2 4 8 .nil))))
def hi8:Hint where
 acts:=fun _=>[]
 draws:=fun
  | 8=>⟨hi8_8,[[],[],[],[2],[2,3],[2,3,4],.range 6,.range 7,.range 8,.range 8,.range 9,.range 11],[0,1,2,3,4,5,6,7,8,10,9,11]⟩
  | 15=>⟨hi8_15,[[],[],[0,1],[0,1,2],[],[],[4,5],[4,5,6],.range 8,[],[9],[9,10],[9,10,11],.range 13,.range 14,.range 15,.range 15,.range 15,.range 18,.range 19,.range 20],.range 21⟩
  | _=>⟨.nil,[],[]⟩
theorem hi8a (i:Nat):hi8.acts i=[]:=rfl
theorem hi8v (i:Nat):hi8.views i=none:=rfl
attribute [go_sem] hi8a hi8v Tryz.ntmps8 Tryz.results8
@[go_sem] theorem Xu:(hi8.draws 8).order=hi8_8:=rfl
@[go_sem] theorem Wu:(hi8.draws 15).order=hi8_15:=rfl
theorem yF {code:List Int}{res:Bool}(h0:kE code=some res):aj Tryz.prog 8 [.sl (ab (eK .u8) code)] [] (.lit (.bool res)) []:=by
 refine co (hi:=hi8) Tryz.func8 rfl rfl ?_
 unfold kE at h0
 obtain ⟨_,h0⟩|⟨_,h0⟩:=itP h0
 ·exact run
 ·obtain ⟨r01,g0,h0⟩:=af h0
  simp(config:=cS)only[go_sem, *]
  have g0:=ctr g0
  refine ah g0 ?_
  obtain ⟨r02,g0,h0⟩:=af h0
  simp(config:=cS)only[go_sem, *]
  have g0:=ctr g0
  refine ah g0 ?_
  obtain ⟨_,h0⟩|⟨_,h0⟩:=itP h0
  ·obtain ⟨r03,g0,h0⟩:=af h0
   simp(config:=cS)only[go_sem, *]
   have g0:=ctr g0
   refine ah g0 ?_
   obtain ⟨_,h0⟩|⟨_,h0⟩:=itP h0
   ·obtain ⟨r04,g0,h0⟩:=af h0
    simp(config:=cS)only[go_sem, *]
    have g0:=ctr g0
    refine ah g0 ?_
    obtain ⟨_,h0⟩|⟨_,h0⟩:=itB h0
    ·obtain ⟨r05,g0,h0⟩:=af h0
     simp(config:=cS)only[go_sem, *]
     have g0:=ctr g0
     refine ah g0 ?_
     obtain ⟨r06,g0,h0⟩:=af h0
     simp(config:=cS)only[go_sem, *]
     have g0:=ctr g0
     refine ah g0 ?_
     obtain ⟨r07,g0,h0⟩:=af h0
     simp(config:=cS)only[go_sem, *]
     have g0:=ctr g0
     refine ah g0 ?_
     obtain ⟨_,h0⟩|⟨_,h0⟩:=itB h0
     ·obtain ⟨r08,g0,h0⟩:=af h0
      simp(config:=cS)only[go_sem, *]
      have g0:=ctr g0
      refine ah g0 ?_
      obtain ⟨r09,g0,h0⟩:=af h0
      simp(config:=cS)only[go_sem, *]
      have g0:=ctr g0
      refine ah g0 ?_
      obtain ⟨_,h0⟩|⟨_,h0⟩:=itP h0
      ·exact run
      ·obtain ⟨_,h0⟩|⟨_,h0⟩:=itP h0
       ·exact run
       ·obtain ⟨_,h0⟩|⟨_,h0⟩:=itP h0
        ·exact run
        ·obtain ⟨_,h0⟩|⟨_,h0⟩:=itP h0
         ·exact run
         ·obtain ⟨x10,_,_,_,h0⟩:=gtI h0
          obtain ⟨x11,_,_,_,h0⟩:=gtI h0
          obtain ⟨x12,g1,h0⟩:=af h0
          have:=cR (k:=0) g1
          exact run
     ·exact run
    ·exact run
   ·exact run
  ·exact run
end Go.Proofs.Qf
