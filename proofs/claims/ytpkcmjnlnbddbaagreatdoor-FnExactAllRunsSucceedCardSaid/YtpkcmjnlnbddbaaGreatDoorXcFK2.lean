/- Functions. -/
import Derived.Test.YtpkcmjnlnbddbaaGreatDoorXcFK1
set_option linter.all false
set_option maxRecDepth 100000
set_option maxHeartbeats 4000000
namespace Go.Proofs.Qc
open Go Tryz
def rN (d:List GNode)(g:Int)(h:List GTie)(i:Int)(e f:List Int):(Int × Int × (List GLink) × (List ByteArray))→St
 | (j,c,a,b)=>⟨[(2,.ptr 128 1 0 0),(3,.ptr 192 1 0 0),(4,.ptr 256 1 0 0),(6,.ptr 384 1 0 0),(7,.ptr 448 1 0 0),(8,.fn 203 [.ptr 384 1 0 0,.ptr 448 1 0 0]),(28,.sl (ab GNode.encS d)),(29,.lit (.int .i64 g)),(30,.lit (.int .i64 j))],[(128,1,.var [.sl (ab GNode.encS d),.sl (ab GTie.enc h),.lit (.int .i64 i)]),(192,1,.var [.sl (ab eI e),.sl (ab eI f)]),(256,1,.var [.lit (.int .i64 0),.lit (.slice none 0 0)]),(384,1,.var [.lit (.int .i64 c),.ref 100024577 1 0 a.length]),(100024577,1,.row true (ab GLink.enc a)),(448,1,.var [.ref 100028672 1 0 b.length]),(100028672,1,.row true (ab eS b))],2⟩
attribute[go_sem] rN
def rO (e:List GTie)(h:Int)(i:List GNode)(j:Int)(f g c:List Int):(Int × Int × (List GLink) × (List ByteArray))→St
 | (k,d,a,b)=>⟨[(2,.ptr 128 1 0 0),(3,.ptr 192 1 0 0),(4,.ptr 256 1 0 0),(6,.ptr 384 1 0 0),(7,.ptr 448 1 0 0),(8,.fn 203 [.ptr 384 1 0 0,.ptr 448 1 0 0]),(11,.ref 3136 1 0 c.length),(51,.sl (ab GTie.enc e)),(52,.lit (.int .i64 h)),(53,.lit (.int .i64 k))],[(128,1,.var [.sl (ab GNode.encS i),.sl (ab GTie.enc e),.lit (.int .i64 j)]),(192,1,.var [.sl (ab eI f),.sl (ab eI g)]),(256,1,.var [.lit (.int .i64 0),.lit (.slice none 0 0)]),(384,1,.var [.lit (.int .i64 d),.ref 100024577 1 0 a.length]),(100024577,1,.row true (ab GLink.enc a)),(448,1,.var [.ref 100028672 1 0 b.length]),(100028672,1,.row true (ab eS b)),(3136,1,.row true (ab eI c))],2⟩
attribute[go_sem] rO
def rP (d:Int)(h:List GNode)(i:List GTie)(j:Int)(e f:List Int):(Int × Int × (List GLink) × (List ByteArray))→St
 | (g,c,a,b)=>⟨[(2,.ptr 128 1 0 0),(3,.ptr 192 1 0 0),(4,.ptr 256 1 0 0),(6,.ptr 384 1 0 0),(7,.ptr 448 1 0 0),(8,.fn 203 [.ptr 384 1 0 0,.ptr 448 1 0 0]),(100,.lit (.int .i64 d)),(101,.lit (.int .i64 g))],[(128,1,.var [.sl (ab GNode.encS h),.sl (ab GTie.enc i),.lit (.int .i64 j)]),(192,1,.var [.sl (ab eI e),.sl (ab eI f)]),(256,1,.var [.lit (.int .i64 0),.lit (.slice none 0 0)]),(384,1,.var [.lit (.int .i64 c),.ref 100024577 1 0 a.length]),(100024577,1,.row true (ab GLink.enc a)),(448,1,.var [.ref 100028672 1 0 b.length]),(100028672,1,.row true (ab eS b))],2⟩
attribute[go_sem] rP
def rQ (i:Int)(c:List GNode)(f:Int)(d:List Int)(g:Int)(l:List GTie)(m:Int)(h j:List Int)(n:ByteArray)(o:Int):(Int × Int × (List GLink) × (List ByteArray))→St
 | (k,e,a,b)=>⟨[(2,.ptr 128 1 0 0),(3,.ptr 192 1 0 0),(4,.ptr 256 1 0 0),(6,.ptr 384 1 0 0),(7,.ptr 448 1 0 0),(8,.fn 203 [.ptr 384 1 0 0,.ptr 448 1 0 0]),(17,.lit (.int .i64 i)),(18,.ptr 1152 1 0 0),(114,.sl (ab GNode.encS c)),(115,.lit (.int .i64 f)),(116,.lit (.int .i64 i)),(122,.sl (ab eI d)),(123,.lit (.int .i64 g)),(124,.lit (.int .i64 k))],[(128,1,.var [.sl (ab GNode.encS c),.sl (ab GTie.enc l),.lit (.int .i64 m)]),(192,1,.var [.sl (ab eI h),.sl (ab eI j)]),(256,1,.var [.lit (.int .i64 0),.lit (.slice none 0 0)]),(384,1,.var [.lit (.int .i64 e),.ref 100024577 1 0 a.length]),(100024577,1,.row true (ab GLink.enc a)),(448,1,.var [.ref 100028672 1 0 b.length]),(100028672,1,.row true (ab eS b)),(1152,1,.var [.lit (.string n),.sl (ab eI d),.lit (.int .i64 o)])],2⟩
attribute[go_sem] rQ
def rR (c:List GNode)(e:Int)(i:List GTie)(j:Int)(f g:List Int):(Int × Int × (List GLink) × (List ByteArray))→St
 | (h,d,a,b)=>⟨[(2,.ptr 128 1 0 0),(3,.ptr 192 1 0 0),(4,.ptr 256 1 0 0),(6,.ptr 384 1 0 0),(7,.ptr 448 1 0 0),(8,.fn 203 [.ptr 384 1 0 0,.ptr 448 1 0 0]),(114,.sl (ab GNode.encS c)),(115,.lit (.int .i64 e)),(116,.lit (.int .i64 h))],[(128,1,.var [.sl (ab GNode.encS c),.sl (ab GTie.enc i),.lit (.int .i64 j)]),(192,1,.var [.sl (ab eI f),.sl (ab eI g)]),(256,1,.var [.lit (.int .i64 0),.lit (.slice none 0 0)]),(384,1,.var [.lit (.int .i64 d),.ref 100024577 1 0 a.length]),(100024577,1,.row true (ab GLink.enc a)),(448,1,.var [.ref 100028672 1 0 b.length]),(100028672,1,.row true (ab eS b))],2⟩
attribute[go_sem] rR
@[go_sem] def hi130_38:DT:=.i2 0 (.i1 1 (.i0 2 [1] (.i2 3 .nil)))
@[go_sem] def hi130_35:DT:=.r2 0 15 .nil
@[go_sem] def hi130_34:DT:=.i1 0 (.i2 1 (.i0 2 [0] (.i2 3 (.i2 4 .nil))))
@[go_sem] def hi130_19:DT:=.i2 0 (.i1 1 (.i1 2 (.i1 3 (.i1 4 (.r2 5 4 (.i0 9 [1,2,3,4] (.i2 10 .nil)))))))
@[go_sem] def hi130_17:DT:=.i1 0 (.i1 1 (.i2 2 (.i2 3 (.i0 4 [0,1] (.r2 5 3 .nil)))))
@[go_sem] def hi130_15:DT:=.r2 0 6 .nil
def br:Hint where
 acts:=fun i=>match i with|8=>[.homeCell 384 1,.homeCell 448 0]|_=>[]
 draws:=fun
  | 15=>⟨hi130_15,[[],[0],[],[2],[0,1],.range 5],[0,1,3,4,2,5]⟩
  | 17=>⟨hi130_17,[[],[0],[],[],[2,3],.range 5,.range 6,.range 7],.range 8⟩
  | 19=>⟨hi130_19,[[],[],[1],[],[3],[],[],[],[],[7,8],.range 10],.range 11⟩
  | 34=>⟨hi130_34,[[],[],[1],[0,1,2],[0,1,2,3]],.range 5⟩
  | 35=>⟨hi130_35,[[],[],[],[],[3],[],[3,4,5],[3,4,5,6],[3,4,5,6,7],[3,4,5,6,7,8],[3,4,5,6,7,8,9],[],[11],[3,4,5,6,7,8,9,10,11,12],.range 14],.range 15⟩
  | 38=>⟨hi130_38,[[],[],[0],[0,1,2]],[0,2,1,3]⟩
  | _=>⟨.nil,[],[]⟩
@[go_sem] theorem XI:br.acts 0=[]:=rfl
@[go_sem] theorem XJ:br.acts 1=[]:=rfl
@[go_sem] theorem XK:br.acts 2=[]:=rfl
@[go_sem] theorem XL:br.acts 3=[]:=rfl
@[go_sem] theorem XM:br.acts 4=[]:=rfl
@[go_sem] theorem XN:br.acts 5=[]:=rfl
@[go_sem] theorem XO:br.acts 6=[]:=rfl
@[go_sem] theorem XP:br.acts 7=[]:=rfl
@[go_sem] theorem XQ:br.acts 8=[.homeCell 384 1,.homeCell 448 0]:=rfl
@[go_sem] theorem XR:br.acts 9=[]:=rfl
@[go_sem] theorem Wk:br.acts 10=[]:=rfl
@[go_sem] theorem Wl:br.acts 11=[]:=rfl
@[go_sem] theorem Wm:br.acts 12=[]:=rfl
@[go_sem] theorem Wn:br.acts 13=[]:=rfl
@[go_sem] theorem Wo:br.acts 14=[]:=rfl
@[go_sem] theorem Wp:br.acts 15=[]:=rfl
@[go_sem] theorem Wq:br.acts 16=[]:=rfl
@[go_sem] theorem Wr:br.acts 17=[]:=rfl
@[go_sem] theorem Ws:br.acts 18=[]:=rfl
@[go_sem] theorem Wt:br.acts 19=[]:=rfl
@[go_sem] theorem Wu:br.acts 20=[]:=rfl
@[go_sem] theorem Wv:br.acts 21=[]:=rfl
@[go_sem] theorem Ww:br.acts 22=[]:=rfl
@[go_sem] theorem Wx:br.acts 23=[]:=rfl
@[go_sem] theorem Wy:br.acts 24=[]:=rfl
@[go_sem] theorem Wz:br.acts 25=[]:=rfl
@[go_sem] theorem WA:br.acts 26=[]:=rfl
@[go_sem] theorem WB:br.acts 27=[]:=rfl
@[go_sem] theorem WC:br.acts 28=[]:=rfl
@[go_sem] theorem WD:br.acts 29=[]:=rfl
@[go_sem] theorem WE:br.acts 30=[]:=rfl
@[go_sem] theorem WF:br.acts 31=[]:=rfl
@[go_sem] theorem WG:br.acts 32=[]:=rfl
@[go_sem] theorem WH:br.acts 33=[]:=rfl
@[go_sem] theorem WI:br.acts 34=[]:=rfl
@[go_sem] theorem WJ:br.acts 35=[]:=rfl
@[go_sem] theorem WK:br.acts 36=[]:=rfl
@[go_sem] theorem WL:br.acts 37=[]:=rfl
@[go_sem] theorem WM:br.acts 38=[]:=rfl
theorem Uc (i:Nat):br.views i=none:=rfl
attribute[go_sem] Uc ntmps130 results130
@[go_sem] theorem WN:(br.draws 15).order=hi130_15:=rfl
@[go_sem] theorem WO:(br.draws 17).order=hi130_17:=rfl
@[go_sem] theorem WP:(br.draws 19).order=hi130_19:=rfl
@[go_sem] theorem WQ:(br.draws 34).order=hi130_34:=rfl
@[go_sem] theorem WR:(br.draws 35).order=hi130_35:=rfl
@[go_sem] theorem WS:(br.draws 38).order=hi130_38:=rfl
instance k130 {s:GShow} {v1:GChoice}:Ctr (mj s v1) (fun (res:al × (List ByteArray))=>ak prog 130 [.agg (GShow.encS s),.agg [.sl (ab eI v1.lengths),.sl (ab eI v1.values)]] [] (.tup [.agg [.lit (.int .i64 res.1.events),.ref 20000 1 0 res.1.links.length],.ref 20001 1 0 res.2.length]) [(20000,1,.row true (ab GLink.enc res.1.links)),(20001,1,.row true (ab eS res.2))]):=⟨by
 intro res h0
 refine aw (ra:=[.homeCell 256 1,.home 5]) (md:=mdT) hT (hi:=br) func130 rfl rfl (by decide +kernel) (by simp) ?_
 unfold mj at h0
 obtain⟨q27,l0,h0⟩:=ae h0
 simp(config:=cS)only[go_sem, *]
 refine ah (m1:=.mk) (m2:=.mk) [.homeCell 384 1,.homeCell 448 0,.nfp [2,3,4,6,7,8,28,29,30] [(128,128),(192,192),(256,256),(384,384),(2944,100024577),(100024577,100024577),(448,448),(2945,100028672),(100028672,100028672)] []] (rN s.nodes ((s.nodes.length:Nat):Int) s.ties s.horizon v1.lengths v1.values) l0 ?_ ?_
 ·simp(config:=cS)only[go_sem, *]
 ·have k0:=h0
  clear h0 l0
  intro _ s0 _ h0 gb0
  obtain⟨v30_1,out_0_1,h100024577_1,h100028672_1⟩:=s0
  unfold jr at h0
  try dsimp only at h0
  obtain⟨_,h0⟩|⟨_,h0⟩:=itP h0
  ·exact run
  ·cases h0
   obtain rfl:=(aI gb0).symm
   clear gb0
   have h0:=k0
   clear k0
   try dsimp only at h0
   obtain⟨r04,g0,h0⟩:=ae h0
   simp(config:=cS)only[go_sem, *]
   have g0:=ctr g0
   refine ag g0 ?_
   obtain⟨q26,l0,h0⟩:=ae h0
   simp(config:=cS)only[go_sem, *]
   refine ah (m1:=.mk) (m2:=.mk) [.nfp [2,3,4,6,7,8,11,51,52,53] [(128,128),(192,192),(256,256),(384,384),(6144,100024577),(100024577,100024577),(448,448),(6145,100028672),(100028672,100028672),(3136,3136)] []] (rO s.ties ((s.ties.length:Nat):Int) s.nodes s.horizon v1.lengths v1.values r04) l0 ?_ ?_
   ·simp(config:=cS)only[go_sem, *]
   ·have k0:=h0
    clear h0 l0
    intro _ s0 _ h0 gb0
    obtain⟨v53_2,out_0_2,h100024577_2,h100028672_2⟩:=s0
    unfold js at h0
    try dsimp only at h0
    obtain⟨_,h0⟩|⟨_,h0⟩:=itP h0
    ·exact run
    ·cases h0
     obtain rfl:=(aI gb0).symm
     clear gb0
     have h0:=k0
     clear k0
     try dsimp only at h0
     obtain⟨q25,l0,h0⟩:=ae h0
     simp(config:=cS)only[go_sem, *]
     refine ah (m1:=.mk) (m2:=.mk) [.nfp [2,3,4,6,7,8,100,101] [(128,128),(192,192),(256,256),(384,384),(7104,100024577),(100024577,100024577),(448,448),(7105,100028672),(100028672,100028672)] []] (rP ((s.nodes.length:Nat):Int) s.nodes s.ties s.horizon v1.lengths v1.values) l0 ?_ ?_
     ·simp(config:=cS)only[go_sem, *]
     ·have k0:=h0
      clear h0 l0
      intro _ s0 _ h0 gb0
      obtain⟨v101_3,out_0_3,h100024577_3,h100028672_3⟩:=s0
      unfold jt at h0
      try dsimp only at h0
      obtain⟨_,h0⟩|⟨_,h0⟩:=itP h0
      ·exact run
      ·cases h0
       obtain rfl:=(aI gb0).symm
       clear gb0
       have h0:=k0
       clear k0
       try dsimp only at h0
       obtain⟨q24,l0,h0⟩:=ae h0
       simp(config:=cS)only[go_sem, *]
       refine ah (m1:=.mk) (m2:=.mk) [.nf [2,3,4,6,7,8,114,115,116] [128,192,256,384,100024577,448,100028672]] (rR s.nodes ((s.nodes.length:Nat):Int) s.ties s.horizon v1.lengths v1.values) l0 ?_ ?_
       ·simp(config:=cS)only[go_sem, *]
       ·have k0:=h0
        clear h0 l0
        intro _ s0 _ h0 gb0
        obtain⟨v116_4,out_0_4,h100024577_4,h100028672_4⟩:=s0
        unfold jv at h0
        try dsimp only at h0
        obtain⟨_,h0⟩|⟨_,h0⟩:=itP h0
        ·obtain⟨x16,_,_,_,h0⟩:=gtI h0
         obtain⟨q23,l0,h0⟩:=ae h0
         simp(config:=cS)only[go_sem, *]
         refine ah (m1:=.mk) (m2:=.mk) [.nfp [2,3,4,6,7,8,17,18,114,115,116,122,123,124] [(128,128),(192,192),(256,256),(384,384),(9600,100024577),(100024577,100024577),(448,448),(9601,100028672),(100028672,100028672),(1152,1152)] []] (rQ v116_4 s.nodes ((s.nodes.length:Nat):Int) x16.label ((x16.label.length:Nat):Int) s.ties s.horizon v1.lengths v1.values x16.name x16.watch) l0 ?_ ?_
         ·simp(config:=cS)only[go_sem, *]
         ·have k0:=h0
          clear h0 l0
          intro _ s0 _ h0 gb0
          obtain⟨v124_5,out_0_5,h100024577_5,h100028672_5⟩:=s0
          unfold ju at h0
          try dsimp only at h0
          obtain⟨_,h0⟩|⟨_,h0⟩:=itP h0
          ·obtain⟨x17,_,_,_,h0⟩:=gtI h0
           obtain⟨r18,g0,h0⟩:=ae h0
           simp(config:=cS)only[go_sem, *]
           have g0:=ctr g0
           refine ag g0 ?_
           obtain⟨_,h0⟩|⟨_,h0⟩:=itB h0
           ·obtain⟨r19,g0,h0⟩:=ae h0
            simp(config:=cS)only[go_sem, *]
            have g0:=ctr g0
            refine ag g0 ?_
            obtain⟨r20,g0,h0⟩:=ae h0
            simp(config:=cS)only[go_sem, *]
            have g0:=ctr g0
            refine ag g0 ?_
            obtain⟨x21,_,_,_,h0⟩:=gtI h0
            obtain⟨_,h0⟩:=ckP h0
            obtain⟨a1,h0⟩:=ckP h0
            try simp(config:=cS)only[go_sem]at a1
            obtain⟨a2,h0⟩:=ckP h0
            try simp(config:=cS)only[go_sem]at a2
            exact run
           ·exact run
          ·exact run
        ·exact run⟩
def lQ (c:List GLink)(a:Nat)(b:List AV)(d e:Int):St:=⟨[(0,.sl (ab GLink.enc c)),(1,.fn a b),(7,.lit (.int .i64 d)),(8,.lit (.int .i64 e))],[],2⟩
attribute[go_sem] lQ
attribute[go_sem] ntmps209 results209 ntmps205 results205 ntmps207 results207 ntmps206 results206 ntmps131 results131 ntmps62 results62 ntmps208 results208 ntmps132 results132 ntmps211 results211 ntmps133 results133 ntmps63 results63 ntmps15 results15 ntmps20 results20 ntmps134 results134 ntmps135 results135 ntmps16 results16 ntmps236 results236 ntmps153 results153
theorem pn {v0:List GLink}{v1:GLink→Option Bool}{f_v1:Nat}{k_v1:List AV}(hp_v1:∀ y0 r,v1 y0=some r→ak prog f_v1 ([.agg (GLink.enc y0)]++k_v1) [] (.lit (.bool r)) [])(hc_v1:KC k_v1)(hm_v1:∀ a,mdT f_v1 a=⟨[],false⟩)(hk_v1:spf f_v1=false){res:Int}(h:cR v0 v1=some res):ak prog 209 [.sl (ab GLink.enc v0),.fn f_v1 k_v1] [] (.lit (.int .i64 res)) []:=by
 refine co (hi:=hi00) func209 rfl rfl ?_
 unfold cR at h
 obtain⟨q03,l1,h⟩:=ae h
 simp(config:=cS)only[go_sem,hc_v1.1,hc_v1.2,hm_v1,hk_v1]
 refine ah (m1:=.mk) (m2:=.mk) [.nf [0,1,7,8] []] (lQ v0 f_v1 k_v1 ((v0.length:Nat):Int)) l1 ?_ ?_
 ·simp(config:=cS)only[go_sem,hc_v1.1,hc_v1.2,hm_v1,hk_v1]
 ·intro nb2 v8_1 bb2 b2 gb2
  unfold cg at b2
  try dsimp only at b2
  obtain⟨h3,b2⟩|⟨h3,b2⟩:=aZ b2
  ·obtain⟨x01,g4,b2⟩:=ae b2
   obtain⟨h5,h6,h7⟩:=eA g4
   obtain⟨r02,g8,b2⟩:=ae b2
   simp(config:=cS)only[go_sem,hc_v1.1,hc_v1.2,hm_v1,hk_v1,eqT h3,h5,h6,h7]
   refine ag (hp_v1 _ _ g8) ?_
   obtain⟨h9,b2⟩|⟨h9,b2⟩:=aZ b2
   ·cases b2
    obtain rfl:=(aI gb2).symm
    try dsimp only at h
    cases h
    simp(config:=cS)only[go_sem,hc_v1.1,hc_v1.2,hm_v1,hk_v1,eqT h3,h5,h6,h7,eZt h9]
   ·cases b2
    simp(config:=cS)only[go_sem,hc_v1.1,hc_v1.2,hm_v1,hk_v1,eqT h3,h5,h6,h7,eZf h9]
    refine ig gb2 ?_
    simp(config:=cS)only[go_sem,hc_v1.1,hc_v1.2,hm_v1,hk_v1,eqT h3,h5,h6,h7,eZf h9]
  ·cases b2
   obtain rfl:=(aI gb2).symm
   try dsimp only at h
   cases h
   simp(config:=cS)only[go_sem,hc_v1.1,hc_v1.2,hm_v1,hk_v1,eqF h3]
theorem tJ {v0:List GLink}{v1:GLink→Option Bool}{f_v1:Nat}{k_v1:List AV}(hp_v1:∀ y0 r,v1 y0=some r→ak prog f_v1 ([.agg (GLink.enc y0)]++k_v1) [] (.lit (.bool r)) [])(hc_v1:KC k_v1)(hm_v1:∀ a,mdT f_v1 a=⟨[],false⟩)(hk_v1:spf f_v1=false){res:Bool}(h:da v0 v1=some res):ak prog 205 [.sl (ab GLink.enc v0),.fn f_v1 k_v1] [] (.lit (.bool res)) []:=by
 refine co (hi:=hi00) func205 rfl rfl ?_
 unfold da at h
 obtain⟨r01,g1,h⟩:=ae h
 simp(config:=cS)only[go_sem,hc_v1.1,hc_v1.2,hm_v1,hk_v1]
 refine ag (pn hp_v1 hc_v1 hm_v1 hk_v1 g1) ?_
 cases h
 simp(config:=cS)only[go_sem,hc_v1.1,hc_v1.2,hm_v1,hk_v1]
instance k207 {i:ay}:Ctr (gr i) (fun (res:Bool)=>ak prog 207 [.agg [.lit (.int .i64 i.low),.lit (.int .i64 i.high)]] [] (.lit (.bool res)) []):=⟨by
 intro res h0
 refine co (hi:=hi00) func207 rfl rfl ?_
 unfold gr at h0
 exact run⟩
instance k206 {l:GLink} {s:al}:Ctr (iN l s) (fun (res:Bool)=>ak prog 206 [.agg (GLink.enc l),.loc [.lit (.int .i64 s.events),.sl (ab GLink.enc s.links)]] [] (.lit (.bool res)) []):=⟨by
 intro res h0
 refine co (hi:=hi00) func206 rfl rfl ?_
 unfold iN at h0
 exact run⟩
instance k131 {s:al}:Ctr (jc s) (fun (res:Bool)=>ak prog 131 [.agg [.lit (.int .i64 s.events),.sl (ab GLink.enc s.links)]] [] (.lit (.bool res)) []):=⟨by
 intro res h0
 refine co (hi:=hi00) func131 rfl rfl ?_
 unfold jc at h0
 obtain⟨_,h0⟩|⟨_,h0⟩:=itP h0
 ·exact run
 ·obtain⟨_,h0⟩|⟨_,h0⟩:=itP h0
  ·exact run
  ·obtain⟨_,h0⟩|⟨_,h0⟩:=itP h0
   ·exact run
   ·obtain⟨r01,g0,h0⟩:=ae h0
    simp(config:=cS)only[go_sem, *]
    refine ag (tJ (by exact fun _ _ hr=>by have q:=ctr hr;exact q) (by refine⟨fun _=>?_,fun _=>?_⟩ <;> simp only[go_sem]) (fun _=>rfl) rfl g0) ?_
    exact run⟩
instance k62 {s:GShow} {v1:GChoice}:Ctr (iO s v1) (fun (res:al × Bool)=>ak prog 62 [.agg (GShow.encS s),.agg [.sl (ab eI v1.lengths),.sl (ab eI v1.values)]] [] (.tup [.agg [.lit (.int .i64 res.1.events),.ref 20000 1 0 res.1.links.length],.lit (.bool res.2)]) [(20000,1,.row true (ab GLink.enc res.1.links))]):=⟨by
 intro res h0
 refine aw (ra:=[.homeCell 256 1]) (md:=mdT) hT (hi:=hi00) func62 rfl rfl (by decide +kernel) (by simp) ?_
 unfold iO at h0
 exact run⟩
instance k208 {n:Int}:Ctr (kY n) (fun (res:Bool)=>ak prog 208 [.lit (.int .i64 n)] [] (.lit (.bool res)) []):=⟨by
 intro res h0
 refine co (hi:=hi00) func208 rfl rfl ?_
 unfold kY at h0
 exact run⟩
instance k132 {s:al} {times:List Int}:Ctr (jd s times) (fun (res:Bool)=>ak prog 132 [.agg [.lit (.int .i64 s.events),.sl (ab GLink.enc s.links)],.sl (ab eI times)] [] (.lit (.bool res)) []):=⟨by
 intro res h0
 refine co (hi:=hi00) func132 rfl rfl ?_
 unfold jd at h0
 obtain⟨r01,g0,h0⟩:=ae h0
 simp(config:=cS)only[go_sem, *]
 have g0:=ctr g0
 refine ag g0 ?_
 obtain⟨_,h0⟩|⟨_,h0⟩:=itB h0
 ·obtain⟨_,h0⟩|⟨_,h0⟩:=itP h0
  ·obtain⟨r02,g0,h0⟩:=ae h0
   simp(config:=cS)only[go_sem, *]
   refine ag (dn (by exact fun _ _ hr=>by have q:=ctr hr;exact q) (by refine⟨fun _=>?_,fun _=>?_⟩ <;> simp only[go_sem]) (fun _=>rfl) rfl g0) ?_
   exact run
  ·exact run
 ·exact run⟩
instance k211 {i:ay} {n:Int}:Ctr (kZ i n) (fun (res:Bool)=>ak prog 211 [.agg [.lit (.int .i64 i.low),.lit (.int .i64 i.high)],.lit (.int .i64 n)] [] (.lit (.bool res)) []):=⟨by
 intro res h0
 refine co (hi:=hi00) func211 rfl rfl ?_
 unfold kZ at h0
 exact run⟩
@[go_sem] def hi210_1:DT:=.r2 0 16 .nil
def HC:Hint where
 acts:=fun _=>[]
 draws:=fun
  | 1=>⟨hi210_1,[[],[0],[],[],[3],[2,3,4],[2,3,4,5],[],[],[8],[7,8,9],[7,8,9,10],[2,3,4,5,6,7,8,9,10,11],.range 13,.range 14,.range 15],.range 16⟩
  | _=>⟨.nil,[],[]⟩
theorem Ud (i:Nat):HC.acts i=[]:=rfl
theorem Ue (i:Nat):HC.views i=none:=rfl
attribute[go_sem] Ud Ue ntmps210 results210
@[go_sem] theorem XS:(HC.draws 1).order=hi210_1:=rfl
instance k210 {l:GLink} {times:List Int}:Ctr (jO l times) (fun (res:Bool)=>ak prog 210 [.agg (GLink.enc l),.loc [.sl (ab eI times)]] [] (.lit (.bool res)) []):=⟨by
 intro res h0
 refine co (hi:=HC) func210 rfl rfl ?_
 unfold jO at h0
 exact run⟩
instance k133 {s:al} {times:List Int}:Ctr (jw s times) (fun (res:Int)=>ak prog 133 [.agg [.lit (.int .i64 s.events),.sl (ab GLink.enc s.links)],.sl (ab eI times)] [] (.lit (.int .i64 res)) []):=⟨by
 intro res h0
 refine co (hi:=hi00) func133 rfl rfl ?_
 unfold jw at h0
 obtain⟨r01,g0,h0⟩:=ae h0
 simp(config:=cS)only[go_sem, *]
 have g0:=ctr g0
 refine ag g0 ?_
 obtain⟨_,h0⟩|⟨_,h0⟩:=itB h0
 ·obtain⟨r02,g0,h0⟩:=ae h0
  simp(config:=cS)only[go_sem, *]
  refine ag (pn (by exact fun _ _ hr=>by have q:=ctr hr;exact q) (by refine⟨fun _=>?_,fun _=>?_⟩ <;> simp only[go_sem]) (fun _=>rfl) rfl g0) ?_
  exact run
 ·exact run⟩
instance k63 {s:al} {times:List Int}:Ctr (jx s times) (fun (res:Bool)=>ak prog 63 [.agg [.lit (.int .i64 s.events),.sl (ab GLink.enc s.links)],.sl (ab eI times)] [] (.lit (.bool res)) []):=⟨by
 intro res h0
 refine co (hi:=hi00) func63 rfl rfl ?_
 unfold jx at h0
 obtain⟨r01,g0,h0⟩:=ae h0
 simp(config:=cS)only[go_sem, *]
 have g0:=ctr g0
 refine ag g0 ?_
 obtain⟨_,h0⟩|⟨_,h0⟩:=itB h0
 ·obtain⟨x02,g1,h0⟩:=ae h0
  have:=cU (k:=0) g1
  exact run
 ·exact run⟩
def qQ (d:List Int)(e:Int)(f:List GNode)(g:List GTie)(h:Int)(b c:List Int):(Int × (List Int))→St
 | (i,a)=>⟨[(3,.ptr 192 1 0 0),(4,.ptr 256 1 0 0),(7,.ref 1600 1 0 a.length),(26,.sl (ab eI d)),(27,.lit (.int .i64 e)),(28,.lit (.int .i64 i))],[(192,1,.var [.sl (ab GNode.encS f),.sl (ab GTie.enc g),.lit (.int .i64 h)]),(256,1,.var [.sl (ab eI b),.sl (ab eI c)]),(1600,1,.row true (ab eI a))],2⟩
attribute[go_sem] qQ
instance k15 {s:GShow} {v1:GChoice} {times:List Int}:Ctr (lb s v1 times) (fun (res:Bool)=>ak prog 15 [.agg (GShow.encS s),.agg [.sl (ab eI v1.lengths),.sl (ab eI v1.values)],.sl (ab eI times)] [] (.lit (.bool res)) []):=⟨by
 intro res h0
 refine co (hi:=hi00) func15 rfl rfl ?_
 unfold lb at h0
 obtain⟨r01,g0,h0⟩:=ae h0
 simp(config:=cS)only[go_sem, *]
 have g0:=ctr g0
 refine ag g0 ?_
 obtain⟨_,h0⟩|⟨_,h0⟩:=itB h0
 ·obtain⟨_,h0⟩|⟨_,h0⟩:=itP h0
  ·obtain⟨r02,g0,h0⟩:=ae h0
   simp(config:=cS)only[go_sem, *]
   have g0:=ctr g0
   refine ag g0 ?_
   obtain⟨q08,l0,h0⟩:=ae h0
   simp(config:=cS)only[go_sem, *]
   refine ah (m1:=.mk) (m2:=.mk) [.nf [3,4,7,26,27,28] [192,256,1600]] (qQ times ((times.length:Nat):Int) s.nodes s.ties s.horizon v1.lengths v1.values) l0 ?_ ?_
   ·simp(config:=cS)only[go_sem, *]
   ·have k0:=h0
    clear h0 l0
    intro _ s0 _ h0 gb0
    obtain⟨v28_1,filled_1⟩:=s0
    unfold dG at h0
    try dsimp only at h0
    obtain⟨_,h0⟩|⟨_,h0⟩:=itP h0
    ·obtain⟨x03,_,_,_,h0⟩:=gtI h0
     obtain⟨r04,g0,h0⟩:=ae h0
     simp(config:=cS)only[go_sem, *]
     have g0:=ctr g0
     refine ag g0 ?_
     obtain⟨_,h0⟩|⟨_,h0⟩:=itP h0
     ·simp(config:=cS)only[go_sem, *]
      exact run
     ·exact run
    ·exact run
  ·exact run
 ·exact run⟩
def mS (a:Bool)(b:Int)(c:List GNode)(d:List GTie)(e n:Int):St:=⟨[(1,.lit (.bool a)),(2,.ptr 128 1 0 0),(5,.lit (.int .i64 n)),(6,.lit (.int .i64 b))],[(128,1,.var [.sl (ab GNode.encS c),.sl (ab GTie.enc d),.lit (.int .i64 e)])],2⟩
attribute[go_sem] mS
instance k20 {s:GShow} {lazy:Bool}:Ctr (fR s lazy) (fun (res:Bool)=>ak prog 20 [.agg (GShow.encS s),.lit (.bool lazy)] [] (.lit (.bool res)) []):=⟨by
 intro res h0
 refine co (hi:=hi00) func20 rfl rfl ?_
 unfold fR at h0
 obtain⟨r01,g0,h0⟩:=ae h0
 simp(config:=cS)only[go_sem, *]
 have g0:=ctr g0
 refine ag g0 ?_
 obtain⟨_,h0⟩|⟨_,h0⟩:=itB h0
 ·obtain⟨r02,g0,h0⟩:=ae h0
  simp(config:=cS)only[go_sem, *]
  have g0:=ctr g0
  refine ag g0 ?_
  obtain⟨q06,l0,h0⟩:=ae h0
  simp(config:=cS)only[go_sem, *]
  refine ah (m1:=.mk) (m2:=.mk) [.nf [1,2,5,6] [128]] (mS lazy r02 s.nodes s.ties s.horizon) l0 ?_ ?_
  ·simp(config:=cS)only[go_sem, *]
  ·have k0:=h0
   clear h0 l0
   intro _ n_1 _ h0 gb0
   unfold cI at h0
   try dsimp only at h0
   exact run
 ·exact run⟩
def sE (a b:List Int)(i:Int):St:=⟨[(0,.sl (ab eI a)),(1,.sl (ab eI b)),(5,.lit (.int .i64 i))],[],2⟩
attribute[go_sem] sE
@[go_sem] def hi18_6:DT:=.r2 0 9 .nil
def hi18:Hint where
 acts:=fun _=>[]
 draws:=fun
  | 6=>⟨hi18_6,[[],[],[0,1],[0,1,2],[],[],[4,5],[4,5,6],.range 8],.range 9⟩
  | _=>⟨.nil,[],[]⟩
theorem VB (i:Nat):hi18.acts i=[]:=rfl
theorem VC (i:Nat):hi18.views i=none:=rfl
attribute[go_sem] VB VC ntmps18 results18
@[go_sem] theorem Ys:(hi18.draws 6).order=hi18_6:=rfl
instance k18 {a:List Int} {b:List Int}:Ctr (nx a b) (fun (res:Bool)=>ak prog 18 [.sl (ab eI a),.sl (ab eI b)] [] (.lit (.bool res)) []):=⟨by
 intro res h0
 refine co (hi:=hi18) func18 rfl rfl ?_
 unfold nx at h0
 obtain⟨_,h0⟩|⟨_,h0⟩:=itP h0
 ·obtain⟨q03,l0,h0⟩:=ae h0
  simp(config:=cS)only[go_sem, *]
  refine ah (m1:=.mk) (m2:=.mk) [.nf [0,1,5] []] (sE a b) l0 ?_ ?_
  ·simp(config:=cS)only[go_sem, *]
  ·have k0:=h0
   clear h0 l0
   intro _ i_1 _ h0 gb0
   unfold iq at h0
   try dsimp only at h0
   exact run
 ·exact run⟩
instance k134 {a:GNode} {b:GNode}:Ctr (ny a b) (fun (res:Bool)=>ak prog 134 [.agg (GNode.encS a),.agg (GNode.encS b)] [] (.lit (.bool res)) []):=⟨by
 intro res h0
 refine co (hi:=hi00) func134 rfl rfl ?_
 unfold ny at h0
 exact run⟩
def rS (a b:List GNode)(i:Int):St:=⟨[(0,.sl (ab GNode.encS a)),(1,.sl (ab GNode.encS b)),(5,.lit (.int .i64 i))],[],2⟩
attribute[go_sem] rS
@[go_sem] def hi64_6:DT:=.r2 0 10 .nil
def hi64:Hint where
 acts:=fun _=>[]
 draws:=fun
  | 6=>⟨hi64_6,[[],[],[0,1],[0,1,2],[],[],[4,5],[4,5,6],.range 8,.range 9],.range 10⟩
  | _=>⟨.nil,[],[]⟩
theorem VD (i:Nat):hi64.acts i=[]:=rfl
theorem VE (i:Nat):hi64.views i=none:=rfl
attribute[go_sem] VD VE ntmps64 results64
@[go_sem] theorem Yt:(hi64.draws 6).order=hi64_6:=rfl
instance k64 {a:List GNode} {b:List GNode}:Ctr (ml a b) (fun (res:Bool)=>ak prog 64 [.sl (ab GNode.encS a),.sl (ab GNode.encS b)] [] (.lit (.bool res)) []):=⟨by
 intro res h0
 refine co (hi:=hi64) func64 rfl rfl ?_
 unfold ml at h0
 obtain⟨_,h0⟩|⟨_,h0⟩:=itP h0
 ·obtain⟨q04,l0,h0⟩:=ae h0
  simp(config:=cS)only[go_sem, *]
  refine ah (m1:=.mk) (m2:=.mk) [.nf [0,1,5] []] (rS a b) l0 ?_ ?_
  ·simp(config:=cS)only[go_sem, *]
  ·have k0:=h0
   clear h0 l0
   intro _ i_1 _ h0 gb0
   unfold jy at h0
   try dsimp only at h0
   exact run
 ·exact run⟩
instance k135 {a:GTie} {b:GTie}:Ctr (rV a b) (fun (res:Bool)=>ak prog 135 [.agg (GTie.enc a),.agg (GTie.enc b)] [] (.lit (.bool res)) []):=⟨by
 intro res h0
 refine co (hi:=hi00) func135 rfl rfl ?_
 unfold rV at h0
 exact run⟩
def sF (a b:List GTie)(i:Int):St:=⟨[(0,.sl (ab GTie.enc a)),(1,.sl (ab GTie.enc b)),(5,.lit (.int .i64 i))],[],2⟩
attribute[go_sem] sF
@[go_sem] def hi65_6:DT:=.r2 0 10 .nil
def hi65:Hint where
 acts:=fun _=>[]
 draws:=fun
  | 6=>⟨hi65_6,[[],[],[0,1],[0,1,2],[],[],[4,5],[4,5,6],.range 8,.range 9],.range 10⟩
  | _=>⟨.nil,[],[]⟩
theorem VG (i:Nat):hi65.acts i=[]:=rfl
theorem VH (i:Nat):hi65.views i=none:=rfl
attribute[go_sem] VG VH ntmps65 results65
@[go_sem] theorem Yu:(hi65.draws 6).order=hi65_6:=rfl
instance k65 {a:List GTie} {b:List GTie}:Ctr (nz a b) (fun (res:Bool)=>ak prog 65 [.sl (ab GTie.enc a),.sl (ab GTie.enc b)] [] (.lit (.bool res)) []):=⟨by
 intro res h0
 refine co (hi:=hi65) func65 rfl rfl ?_
 unfold nz at h0
 obtain⟨_,h0⟩|⟨_,h0⟩:=itP h0
 ·obtain⟨q04,l0,h0⟩:=ae h0
  simp(config:=cS)only[go_sem, *]
  refine ah (m1:=.mk) (m2:=.mk) [.nf [0,1,5] []] (sF a b) l0 ?_ ?_
  ·simp(config:=cS)only[go_sem, *]
  ·have k0:=h0
   clear h0 l0
   intro _ i_1 _ h0 gb0
   unfold kj at h0
   try dsimp only at h0
   exact run
 ·exact run⟩
instance k16 {a:GShow} {b:GShow}:Ctr (nD a b) (fun (res:Bool)=>ak prog 16 [.agg (GShow.encS a),.agg (GShow.encS b)] [] (.lit (.bool res)) []):=⟨by
 intro res h0
 refine co (hi:=hi00) func16 rfl rfl ?_
 unfold nD at h0
 exact run⟩
@[go_sem] def hi4_10:DT:=.i1 0 (.i2 1 (.i0 2 [0] (.i2 3 (.i2 4 .nil))))
def hi4:Hint where
 acts:=fun _=>[]
 draws:=fun
  | 10=>⟨hi4_10,[[],[],[1],[0,1,2],[0,1,2,3]],.range 5⟩
  | _=>⟨.nil,[],[]⟩
theorem hi4a (i:Nat):hi4.acts i=[]:=rfl
theorem hi4v (i:Nat):hi4.views i=none:=rfl
attribute[go_sem] hi4a hi4v ntmps4 results4
@[go_sem] theorem Yv:(hi4.draws 10).order=hi4_10:=rfl
theorem sN {aS:GShow}{aLazy res:Bool}(h0:eh aS aLazy=some res):ak prog 4 [.agg (GShow.encS aS),.lit (.bool aLazy)] [] (.lit (.bool res)) []:=by
 refine co (hi:=hi4) func4 rfl rfl ?_
 unfold eh at h0
 exact run
def vN (b:List Int)(c:Int):(Int × (List ByteArray))→St
 | (d,a)=>⟨[(3,.ref 255 1 0 a.length),(6,.sl (ab eI b)),(7,.lit (.int .i64 c)),(8,.lit (.int .i64 d))],[(255,1,.row true (ab eS a))],2⟩
attribute[go_sem] vN
@[go_sem] def hi77_1:DT:=.i2 0 (.i2 1 (.i1 3 (.i1 4 (.i1 6 (.i1 7 (.i1 9 (.i1 10 (.i0 2 [3,4,6,7,9,10] (.i0 5 [6,7,9,10] (.i0 8 [9,10] (.r2 11 4 .nil)))))))))))
def hi77:Hint where
 acts:=fun _=>[]
 draws:=fun
  | 1=>⟨hi77_1,[[],[0],[0,1],[],[3],.range 5,[],[6],.range 8,[],[9],.range 11,.range 12,.range 13,.range 14],.range 15⟩
  | _=>⟨.nil,[],[]⟩
theorem VI (i:Nat):hi77.acts i=[]:=rfl
theorem VJ (i:Nat):hi77.views i=none:=rfl
attribute[go_sem] VI VJ ntmps77 results77
@[go_sem] theorem Yw:(hi77.draws 1).order=hi77_1:=rfl
end Go.Proofs.Qc
