/- Functions. -/
import Derived.Test.YtpkcmjnlnbddbaaGreatDoorXfFK1
set_option linter.all false
set_option maxRecDepth 100000
set_option maxHeartbeats 4000000
namespace Go.Proofs.Qf
open Go
def oq (d:List GNode)(g:Int)(h:List GTie)(i:Int)(e f:List Int):(Int × Int × (List GLink) × (List ByteArray))→St
 | (j,c,a,b)=>⟨[(2,.ptr 128 1 0 0),(3,.ptr 192 1 0 0),(4,.ptr 256 1 0 0),(6,.ptr 384 1 0 0),(7,.ptr 448 1 0 0),(8,.fn 203 [.ptr 384 1 0 0,.ptr 448 1 0 0]),(28,.sl (ab GNode.encS d)),(29,.lit (.int .i64 g)),(30,.lit (.int .i64 j))],[(128,1,.var [.sl (ab GNode.encS d),.sl (ab GTie.enc h),.lit (.int .i64 i)]),(192,1,.var [.sl (ab eI e),.sl (ab eI f)]),(256,1,.var [.lit (.int .i64 0),.lit (.slice none 0 0)]),(384,1,.var [.lit (.int .i64 c),.ref 100024577 1 0 a.length]),(100024577,1,.row true (ab GLink.enc a)),(448,1,.var [.ref 100028672 1 0 b.length]),(100028672,1,.row true (ab eS b))],2⟩
attribute [go_sem] oq
def ot (e:List GTie)(h:Int)(i:List GNode)(j:Int)(f g c:List Int):(Int × Int × (List GLink) × (List ByteArray))→St
 | (k,d,a,b)=>⟨[(2,.ptr 128 1 0 0),(3,.ptr 192 1 0 0),(4,.ptr 256 1 0 0),(6,.ptr 384 1 0 0),(7,.ptr 448 1 0 0),(8,.fn 203 [.ptr 384 1 0 0,.ptr 448 1 0 0]),(11,.ref 3136 1 0 c.length),(51,.sl (ab GTie.enc e)),(52,.lit (.int .i64 h)),(53,.lit (.int .i64 k))],[(128,1,.var [.sl (ab GNode.encS i),.sl (ab GTie.enc e),.lit (.int .i64 j)]),(192,1,.var [.sl (ab eI f),.sl (ab eI g)]),(256,1,.var [.lit (.int .i64 0),.lit (.slice none 0 0)]),(384,1,.var [.lit (.int .i64 d),.ref 100024577 1 0 a.length]),(100024577,1,.row true (ab GLink.enc a)),(448,1,.var [.ref 100028672 1 0 b.length]),(100028672,1,.row true (ab eS b)),(3136,1,.row true (ab eI c))],2⟩
attribute [go_sem] ot
def ou (d:Int)(h:List GNode)(i:List GTie)(j:Int)(e f:List Int):(Int × Int × (List GLink) × (List ByteArray))→St
 | (g,c,a,b)=>⟨[(2,.ptr 128 1 0 0),(3,.ptr 192 1 0 0),(4,.ptr 256 1 0 0),(6,.ptr 384 1 0 0),(7,.ptr 448 1 0 0),(8,.fn 203 [.ptr 384 1 0 0,.ptr 448 1 0 0]),(100,.lit (.int .i64 d)),(101,.lit (.int .i64 g))],[(128,1,.var [.sl (ab GNode.encS h),.sl (ab GTie.enc i),.lit (.int .i64 j)]),(192,1,.var [.sl (ab eI e),.sl (ab eI f)]),(256,1,.var [.lit (.int .i64 0),.lit (.slice none 0 0)]),(384,1,.var [.lit (.int .i64 c),.ref 100024577 1 0 a.length]),(100024577,1,.row true (ab GLink.enc a)),(448,1,.var [.ref 100028672 1 0 b.length]),(100028672,1,.row true (ab eS b))],2⟩
attribute [go_sem] ou
def ov (i:Int)(c:List GNode)(f:Int)(d:List Int)(g:Int)(l:List GTie)(m:Int)(h j:List Int)(n:ByteArray)(o:Int):(Int × Int × (List GLink) × (List ByteArray))→St
 | (k,e,a,b)=>⟨[(2,.ptr 128 1 0 0),(3,.ptr 192 1 0 0),(4,.ptr 256 1 0 0),(6,.ptr 384 1 0 0),(7,.ptr 448 1 0 0),(8,.fn 203 [.ptr 384 1 0 0,.ptr 448 1 0 0]),(17,.lit (.int .i64 i)),(18,.ptr 1152 1 0 0),(114,.sl (ab GNode.encS c)),(115,.lit (.int .i64 f)),(116,.lit (.int .i64 i)),(122,.sl (ab eI d)),(123,.lit (.int .i64 g)),(124,.lit (.int .i64 k))],[(128,1,.var [.sl (ab GNode.encS c),.sl (ab GTie.enc l),.lit (.int .i64 m)]),(192,1,.var [.sl (ab eI h),.sl (ab eI j)]),(256,1,.var [.lit (.int .i64 0),.lit (.slice none 0 0)]),(384,1,.var [.lit (.int .i64 e),.ref 100024577 1 0 a.length]),(100024577,1,.row true (ab GLink.enc a)),(448,1,.var [.ref 100028672 1 0 b.length]),(100028672,1,.row true (ab eS b)),(1152,1,.var [.lit (.string n),.sl (ab eI d),.lit (.int .i64 o)])],2⟩
attribute [go_sem] ov
def ow (c:List GNode)(e:Int)(i:List GTie)(j:Int)(f g:List Int):(Int × Int × (List GLink) × (List ByteArray))→St
 | (h,d,a,b)=>⟨[(2,.ptr 128 1 0 0),(3,.ptr 192 1 0 0),(4,.ptr 256 1 0 0),(6,.ptr 384 1 0 0),(7,.ptr 448 1 0 0),(8,.fn 203 [.ptr 384 1 0 0,.ptr 448 1 0 0]),(114,.sl (ab GNode.encS c)),(115,.lit (.int .i64 e)),(116,.lit (.int .i64 h))],[(128,1,.var [.sl (ab GNode.encS c),.sl (ab GTie.enc i),.lit (.int .i64 j)]),(192,1,.var [.sl (ab eI f),.sl (ab eI g)]),(256,1,.var [.lit (.int .i64 0),.lit (.slice none 0 0)]),(384,1,.var [.lit (.int .i64 d),.ref 100024577 1 0 a.length]),(100024577,1,.row true (ab GLink.enc a)),(448,1,.var [.ref 100028672 1 0 b.length]),(100028672,1,.row true (ab eS b))],2⟩
attribute [go_sem] ow
@[go_sem] def hi130_38:DT:=.i2 0 (.i1 1 (.i0 2 [1] (.i2 3 .nil)))
@[go_sem] def hi130_35:DT:=.r2 0 15 .nil
@[go_sem] def hi130_34:DT:=.i1 0 (.i2 1 (.i0 2 [0] (.i2 3 (.i2 4 .nil))))
@[go_sem] def hi130_19:DT:=.i2 0 (.i1 1 (.i1 2 (.i1 3 (.i1 4 (.r2 5 4 (.i0 9 [1,2,3,4] (.i2 10 .nil)))))))
@[go_sem] def hi130_17:DT:=.i1 0 (.i1 1 (.i2 2 (.i2 3 (.i0 4 [0,1] (.r2 5 3 .nil)))))
@[go_sem] def hi130_15:DT:=.r2 0 6 .nil
def bh:Hint where
 acts:=fun i=>match i with | 8=>[.homeCell 384 1,.homeCell 448 0] | _=>[]
 draws:=fun
  | 15=>⟨hi130_15,[[],[0],[],[2],[0,1],.range 5],[0,1,3,4,2,5]⟩
  | 17=>⟨hi130_17,[[],[0],[],[],[2,3],.range 5,.range 6,.range 7],.range 8⟩
  | 19=>⟨hi130_19,[[],[],[1],[],[3],[],[],[],[],[7,8],.range 10],.range 11⟩
  | 34=>⟨hi130_34,[[],[],[1],[0,1,2],[0,1,2,3]],.range 5⟩
  | 35=>⟨hi130_35,[[],[],[],[],[3],[],[3,4,5],[3,4,5,6],[3,4,5,6,7],[3,4,5,6,7,8],[3,4,5,6,7,8,9],[],[11],[3,4,5,6,7,8,9,10,11,12],.range 14],.range 15⟩
  | 38=>⟨hi130_38,[[],[],[0],[0,1,2]],[0,2,1,3]⟩
  | _=>⟨.nil,[],[]⟩
@[go_sem] theorem VX:bh.acts 0=[]:=rfl
@[go_sem] theorem VY:bh.acts 1=[]:=rfl
@[go_sem] theorem VZ:bh.acts 2=[]:=rfl
@[go_sem] theorem Wa:bh.acts 3=[]:=rfl
@[go_sem] theorem Wb:bh.acts 4=[]:=rfl
@[go_sem] theorem Wc:bh.acts 5=[]:=rfl
@[go_sem] theorem Wd:bh.acts 6=[]:=rfl
@[go_sem] theorem We:bh.acts 7=[]:=rfl
@[go_sem] theorem Wf:bh.acts 8=[.homeCell 384 1,.homeCell 448 0]:=rfl
@[go_sem] theorem Wg:bh.acts 9=[]:=rfl
@[go_sem] theorem Ut:bh.acts 10=[]:=rfl
@[go_sem] theorem Uu:bh.acts 11=[]:=rfl
@[go_sem] theorem Uv:bh.acts 12=[]:=rfl
@[go_sem] theorem Uw:bh.acts 13=[]:=rfl
@[go_sem] theorem Ux:bh.acts 14=[]:=rfl
@[go_sem] theorem Uy:bh.acts 15=[]:=rfl
@[go_sem] theorem Uz:bh.acts 16=[]:=rfl
@[go_sem] theorem UA:bh.acts 17=[]:=rfl
@[go_sem] theorem UB:bh.acts 18=[]:=rfl
@[go_sem] theorem UC:bh.acts 19=[]:=rfl
@[go_sem] theorem UD:bh.acts 20=[]:=rfl
@[go_sem] theorem UE:bh.acts 21=[]:=rfl
@[go_sem] theorem UF:bh.acts 22=[]:=rfl
@[go_sem] theorem UG:bh.acts 23=[]:=rfl
@[go_sem] theorem UH:bh.acts 24=[]:=rfl
@[go_sem] theorem UI:bh.acts 25=[]:=rfl
@[go_sem] theorem UJ:bh.acts 26=[]:=rfl
@[go_sem] theorem UK:bh.acts 27=[]:=rfl
@[go_sem] theorem UL:bh.acts 28=[]:=rfl
@[go_sem] theorem UM:bh.acts 29=[]:=rfl
@[go_sem] theorem UN:bh.acts 30=[]:=rfl
@[go_sem] theorem UO:bh.acts 31=[]:=rfl
@[go_sem] theorem UP:bh.acts 32=[]:=rfl
@[go_sem] theorem UQ:bh.acts 33=[]:=rfl
@[go_sem] theorem UR:bh.acts 34=[]:=rfl
@[go_sem] theorem US:bh.acts 35=[]:=rfl
@[go_sem] theorem UT:bh.acts 36=[]:=rfl
@[go_sem] theorem UU:bh.acts 37=[]:=rfl
@[go_sem] theorem UV:bh.acts 38=[]:=rfl
theorem RT (i:Nat):bh.views i=none:=rfl
attribute [go_sem] RT Tryz.ntmps130 Tryz.results130
@[go_sem] theorem UW:(bh.draws 15).order=hi130_15:=rfl
@[go_sem] theorem UX:(bh.draws 17).order=hi130_17:=rfl
@[go_sem] theorem UY:(bh.draws 19).order=hi130_19:=rfl
@[go_sem] theorem UZ:(bh.draws 34).order=hi130_34:=rfl
@[go_sem] theorem Va:(bh.draws 35).order=hi130_35:=rfl
@[go_sem] theorem Vb:(bh.draws 38).order=hi130_38:=rfl
instance k130 {s:GShow} {v1:GChoice}:Ctr (jX s v1) (fun (res:ap × (List ByteArray))=>aj Tryz.prog 130 [.agg (GShow.encS s),.agg [.sl (ab eI v1.lengths),.sl (ab eI v1.values)]] [] (.tup [.agg [.lit (.int .i64 res.1.events),.ref 20000 1 0 res.1.links.length],.ref 20001 1 0 res.2.length]) [(20000,1,.row true (ab GLink.enc res.1.links)),(20001,1,.row true (ab eS res.2))]):=⟨by
 intro res h0
 refine aE (ra:=[.homeCell 256 1,.home 5]) (md:=mdT) hT (hi:=bh) Tryz.func130 rfl rfl (by decide +kernel) (by simp) ?_
 unfold jX at h0
 obtain ⟨q27,l0,h0⟩:=af h0
 simp(config:=cS)only[go_sem, *]
 refine ak (m1:=.mk) (m2:=.mk) [.homeCell 384 1,.homeCell 448 0,.nfp [2,3,4,6,7,8,28,29,30] [(128,128),(192,192),(256,256),(384,384),(2944,100024577),(100024577,100024577),(448,448),(2945,100028672),(100028672,100028672)] []] (oq s.nodes ((s.nodes.length:Nat):Int) s.ties s.horizon v1.lengths v1.values) l0 ?_ ?_
 ·simp(config:=cS)only[go_sem, *]
 ·have k0:=h0
  clear h0 l0
  intro _ s0 _ h0 gb0
  obtain ⟨v30_1,out_0_1,h100024577_1,h100028672_1⟩:=s0
  unfold gM at h0
  try dsimp only at h0
  obtain ⟨_,h0⟩|⟨_,h0⟩:=itP h0
  ·exact run
  ·cases h0
   obtain rfl:=(bc gb0).symm
   clear gb0
   have h0:=k0
   clear k0
   try dsimp only at h0
   obtain ⟨r04,g0,h0⟩:=af h0
   simp(config:=cS)only[go_sem, *]
   have g0:=ctr g0
   refine ah g0 ?_
   obtain ⟨q26,l0,h0⟩:=af h0
   simp(config:=cS)only[go_sem, *]
   refine ak (m1:=.mk) (m2:=.mk) [.nfp [2,3,4,6,7,8,11,51,52,53] [(128,128),(192,192),(256,256),(384,384),(6144,100024577),(100024577,100024577),(448,448),(6145,100028672),(100028672,100028672),(3136,3136)] []] (ot s.ties ((s.ties.length:Nat):Int) s.nodes s.horizon v1.lengths v1.values r04) l0 ?_ ?_
   ·simp(config:=cS)only[go_sem, *]
   ·have k0:=h0
    clear h0 l0
    intro _ s0 _ h0 gb0
    obtain ⟨v53_2,out_0_2,h100024577_2,h100028672_2⟩:=s0
    unfold gN at h0
    try dsimp only at h0
    obtain ⟨_,h0⟩|⟨_,h0⟩:=itP h0
    ·exact run
    ·cases h0
     obtain rfl:=(bc gb0).symm
     clear gb0
     have h0:=k0
     clear k0
     try dsimp only at h0
     obtain ⟨q25,l0,h0⟩:=af h0
     simp(config:=cS)only[go_sem, *]
     refine ak (m1:=.mk) (m2:=.mk) [.nfp [2,3,4,6,7,8,100,101] [(128,128),(192,192),(256,256),(384,384),(7104,100024577),(100024577,100024577),(448,448),(7105,100028672),(100028672,100028672)] []] (ou ((s.nodes.length:Nat):Int) s.nodes s.ties s.horizon v1.lengths v1.values) l0 ?_ ?_
     ·simp(config:=cS)only[go_sem, *]
     ·have k0:=h0
      clear h0 l0
      intro _ s0 _ h0 gb0
      obtain ⟨v101_3,out_0_3,h100024577_3,h100028672_3⟩:=s0
      unfold gO at h0
      try dsimp only at h0
      obtain ⟨_,h0⟩|⟨_,h0⟩:=itP h0
      ·exact run
      ·cases h0
       obtain rfl:=(bc gb0).symm
       clear gb0
       have h0:=k0
       clear k0
       try dsimp only at h0
       obtain ⟨q24,l0,h0⟩:=af h0
       simp(config:=cS)only[go_sem, *]
       refine ak (m1:=.mk) (m2:=.mk) [.nf [2,3,4,6,7,8,114,115,116] [128,192,256,384,100024577,448,100028672]] (ow s.nodes ((s.nodes.length:Nat):Int) s.ties s.horizon v1.lengths v1.values) l0 ?_ ?_
       ·simp(config:=cS)only[go_sem, *]
       ·have k0:=h0
        clear h0 l0
        intro _ s0 _ h0 gb0
        obtain ⟨v116_4,out_0_4,h100024577_4,h100028672_4⟩:=s0
        unfold gQ at h0
        try dsimp only at h0
        obtain ⟨_,h0⟩|⟨_,h0⟩:=itP h0
        ·obtain ⟨x16,_,_,_,h0⟩:=gtI h0
         obtain ⟨q23,l0,h0⟩:=af h0
         simp(config:=cS)only[go_sem, *]
         refine ak (m1:=.mk) (m2:=.mk) [.nfp [2,3,4,6,7,8,17,18,114,115,116,122,123,124] [(128,128),(192,192),(256,256),(384,384),(9600,100024577),(100024577,100024577),(448,448),(9601,100028672),(100028672,100028672),(1152,1152)] []] (ov v116_4 s.nodes ((s.nodes.length:Nat):Int) x16.label ((x16.label.length:Nat):Int) s.ties s.horizon v1.lengths v1.values x16.name x16.watch) l0 ?_ ?_
         ·simp(config:=cS)only[go_sem, *]
         ·have k0:=h0
          clear h0 l0
          intro _ s0 _ h0 gb0
          obtain ⟨v124_5,out_0_5,h100024577_5,h100028672_5⟩:=s0
          unfold gP at h0
          try dsimp only at h0
          obtain ⟨_,h0⟩|⟨_,h0⟩:=itP h0
          ·obtain ⟨x17,_,_,_,h0⟩:=gtI h0
           obtain ⟨r18,g0,h0⟩:=af h0
           simp(config:=cS)only[go_sem, *]
           have g0:=ctr g0
           refine ah g0 ?_
           obtain ⟨_,h0⟩|⟨_,h0⟩:=itB h0
           ·obtain ⟨r19,g0,h0⟩:=af h0
            simp(config:=cS)only[go_sem, *]
            have g0:=ctr g0
            refine ah g0 ?_
            obtain ⟨r20,g0,h0⟩:=af h0
            simp(config:=cS)only[go_sem, *]
            have g0:=ctr g0
            refine ah g0 ?_
            obtain ⟨x21,_,_,_,h0⟩:=gtI h0
            obtain ⟨_,h0⟩:=ckP h0
            obtain ⟨a1,h0⟩:=ckP h0
            try simp(config:=cS)only[go_sem] at a1
            obtain ⟨a2,h0⟩:=ckP h0
            try simp(config:=cS)only[go_sem] at a2
            exact run
           ·exact run
          ·exact run
        ·exact run⟩
def jE (c:List GLink)(a:Nat)(b:List AV)(d e:Int):St:=⟨[(0,.sl (ab GLink.enc c)),(1,.fn a b),(7,.lit (.int .i64 d)),(8,.lit (.int .i64 e))],[],2⟩
attribute [go_sem] jE
attribute [go_sem] Tryz.ntmps209 Tryz.results209
theorem mj {v0:List GLink}{v1:GLink→Option Bool}{f_v1:Nat}{k_v1:List AV}(hp_v1:∀ y0 r,v1 y0=some r→aj Tryz.prog f_v1 ([.agg (GLink.enc y0)]++k_v1) [] (.lit (.bool r)) [])(hc_v1:KC k_v1)(hm_v1:∀ a,mdT f_v1 a=⟨[],false⟩)(hk_v1:spf f_v1=false){res:Int}(h:cz v0 v1=some res):aj Tryz.prog 209 [.sl (ab GLink.enc v0),.fn f_v1 k_v1] [] (.lit (.int .i64 res)) []:=by
 refine co (hi:=hi00) Tryz.func209 rfl rfl ?_
 unfold cz at h
 obtain ⟨q03,l1,h⟩:=af h
 simp(config:=cS)only[go_sem,hc_v1.1,hc_v1.2,hm_v1,hk_v1]
 refine ak (m1:=.mk) (m2:=.mk) [.nf [0,1,7,8] []] (jE v0 f_v1 k_v1 ((v0.length:Nat):Int)) l1 ?_ ?_
 ·simp(config:=cS)only[go_sem,hc_v1.1,hc_v1.2,hm_v1,hk_v1]
 ·intro nb2 v8_1 bb2 b2 gb2
  unfold bQ at b2
  try dsimp only at b2
  obtain ⟨h3,b2⟩|⟨h3,b2⟩:=bq b2
  ·obtain ⟨x01,g4,b2⟩:=af b2
   obtain ⟨h5,h6,h7⟩:=dK g4
   obtain ⟨r02,g8,b2⟩:=af b2
   simp(config:=cS)only[go_sem,hc_v1.1,hc_v1.2,hm_v1,hk_v1,eqT h3,h5,h6,h7]
   refine ah (hp_v1 _ _ g8) ?_
   obtain ⟨h9,b2⟩|⟨h9,b2⟩:=bq b2
   ·cases b2
    obtain rfl:=(bc gb2).symm
    try dsimp only at h
    cases h
    simp(config:=cS)only[go_sem,hc_v1.1,hc_v1.2,hm_v1,hk_v1,eqT h3,h5,h6,h7,eZt h9]
   ·cases b2
    simp(config:=cS)only[go_sem,hc_v1.1,hc_v1.2,hm_v1,hk_v1,eqT h3,h5,h6,h7,eZf h9]
    refine io gb2 ?_
    simp(config:=cS)only[go_sem,hc_v1.1,hc_v1.2,hm_v1,hk_v1,eqT h3,h5,h6,h7,eZf h9]
  ·cases b2
   obtain rfl:=(bc gb2).symm
   try dsimp only at h
   cases h
   simp(config:=cS)only[go_sem,hc_v1.1,hc_v1.2,hm_v1,hk_v1,eqF h3]
attribute [go_sem] Tryz.ntmps205 Tryz.results205
theorem qe {v0:List GLink}{v1:GLink→Option Bool}{f_v1:Nat}{k_v1:List AV}(hp_v1:∀ y0 r,v1 y0=some r→aj Tryz.prog f_v1 ([.agg (GLink.enc y0)]++k_v1) [] (.lit (.bool r)) [])(hc_v1:KC k_v1)(hm_v1:∀ a,mdT f_v1 a=⟨[],false⟩)(hk_v1:spf f_v1=false){res:Bool}(h:cI v0 v1=some res):aj Tryz.prog 205 [.sl (ab GLink.enc v0),.fn f_v1 k_v1] [] (.lit (.bool res)) []:=by
 refine co (hi:=hi00) Tryz.func205 rfl rfl ?_
 unfold cI at h
 obtain ⟨r01,g1,h⟩:=af h
 simp(config:=cS)only[go_sem,hc_v1.1,hc_v1.2,hm_v1,hk_v1]
 refine ah (mj hp_v1 hc_v1 hm_v1 hk_v1 g1) ?_
 cases h
 simp(config:=cS)only[go_sem,hc_v1.1,hc_v1.2,hm_v1,hk_v1]
attribute [go_sem] Tryz.ntmps207 Tryz.results207
instance k207 {i:az}:Ctr (fg i) (fun (res:Bool)=>aj Tryz.prog 207 [.agg [.lit (.int .i64 i.low),.lit (.int .i64 i.high)]] [] (.lit (.bool res)) []):=⟨by
 intro res h0
 refine co (hi:=hi00) Tryz.func207 rfl rfl ?_
 unfold fg at h0
 exact run⟩
attribute [go_sem] Tryz.ntmps206 Tryz.results206
instance k206 {l:GLink} {s:ap}:Ctr (gq l s) (fun (res:Bool)=>aj Tryz.prog 206 [.agg (GLink.enc l),.loc [.lit (.int .i64 s.events),.sl (ab GLink.enc s.links)]] [] (.lit (.bool res)) []):=⟨by
 intro res h0
 refine co (hi:=hi00) Tryz.func206 rfl rfl ?_
 unfold gq at h0
 exact run⟩
attribute [go_sem] Tryz.ntmps131 Tryz.results131
instance k131 {s:ap}:Ctr (gE s) (fun (res:Bool)=>aj Tryz.prog 131 [.agg [.lit (.int .i64 s.events),.sl (ab GLink.enc s.links)]] [] (.lit (.bool res)) []):=⟨by
 intro res h0
 refine co (hi:=hi00) Tryz.func131 rfl rfl ?_
 unfold gE at h0
 obtain ⟨_,h0⟩|⟨_,h0⟩:=itP h0
 ·exact run
 ·obtain ⟨_,h0⟩|⟨_,h0⟩:=itP h0
  ·exact run
  ·obtain ⟨_,h0⟩|⟨_,h0⟩:=itP h0
   ·exact run
   ·obtain ⟨r01,g0,h0⟩:=af h0
    simp(config:=cS)only[go_sem, *]
    refine ah (qe (by exact fun _ _ hr=>by have q:=ctr hr;exact q) (by refine ⟨fun _=>?_,fun _=>?_⟩ <;> simp only [go_sem]) (fun _=>rfl) rfl g0) ?_
    exact run⟩
attribute [go_sem] Tryz.ntmps62 Tryz.results62
instance k62 {s:GShow} {v1:GChoice}:Ctr (gr s v1) (fun (res:ap × Bool)=>aj Tryz.prog 62 [.agg (GShow.encS s),.agg [.sl (ab eI v1.lengths),.sl (ab eI v1.values)]] [] (.tup [.agg [.lit (.int .i64 res.1.events),.ref 20000 1 0 res.1.links.length],.lit (.bool res.2)]) [(20000,1,.row true (ab GLink.enc res.1.links))]):=⟨by
 intro res h0
 refine aE (ra:=[.homeCell 256 1]) (md:=mdT) hT (hi:=hi00) Tryz.func62 rfl rfl (by decide +kernel) (by simp) ?_
 unfold gr at h0
 exact run⟩
attribute [go_sem] Tryz.ntmps208 Tryz.results208
instance k208 {n:Int}:Ctr (ji n) (fun (res:Bool)=>aj Tryz.prog 208 [.lit (.int .i64 n)] [] (.lit (.bool res)) []):=⟨by
 intro res h0
 refine co (hi:=hi00) Tryz.func208 rfl rfl ?_
 unfold ji at h0
 exact run⟩
attribute [go_sem] Tryz.ntmps132 Tryz.results132
instance k132 {s:ap} {times:List Int}:Ctr (gF s times) (fun (res:Bool)=>aj Tryz.prog 132 [.agg [.lit (.int .i64 s.events),.sl (ab GLink.enc s.links)],.sl (ab eI times)] [] (.lit (.bool res)) []):=⟨by
 intro res h0
 refine co (hi:=hi00) Tryz.func132 rfl rfl ?_
 unfold gF at h0
 obtain ⟨r01,g0,h0⟩:=af h0
 simp(config:=cS)only[go_sem, *]
 have g0:=ctr g0
 refine ah g0 ?_
 obtain ⟨_,h0⟩|⟨_,h0⟩:=itB h0
 ·obtain ⟨_,h0⟩|⟨_,h0⟩:=itP h0
  ·obtain ⟨r02,g0,h0⟩:=af h0
   simp(config:=cS)only[go_sem, *]
   refine ah (bY (by exact fun _ _ hr=>by have q:=ctr hr;exact q) (by refine ⟨fun _=>?_,fun _=>?_⟩ <;> simp only [go_sem]) (fun _=>rfl) rfl g0) ?_
   exact run
  ·exact run
 ·exact run⟩
attribute [go_sem] Tryz.ntmps211 Tryz.results211
instance k211 {i:az} {n:Int}:Ctr (jj i n) (fun (res:Bool)=>aj Tryz.prog 211 [.agg [.lit (.int .i64 i.low),.lit (.int .i64 i.high)],.lit (.int .i64 n)] [] (.lit (.bool res)) []):=⟨by
 intro res h0
 refine co (hi:=hi00) Tryz.func211 rfl rfl ?_
 unfold jj at h0
 exact run⟩
@[go_sem] def hi210_1:DT:=.r2 0 16 .nil
def EW:Hint where
 acts:=fun _=>[]
 draws:=fun
  | 1=>⟨hi210_1,[[],[0],[],[],[3],[2,3,4],[2,3,4,5],[],[],[8],[7,8,9],[7,8,9,10],[2,3,4,5,6,7,8,9,10,11],.range 13,.range 14,.range 15],.range 16⟩
  | _=>⟨.nil,[],[]⟩
theorem RU (i:Nat):EW.acts i=[]:=rfl
theorem RV (i:Nat):EW.views i=none:=rfl
attribute [go_sem] RU RV Tryz.ntmps210 Tryz.results210
@[go_sem] theorem Wh:(EW.draws 1).order=hi210_1:=rfl
instance k210 {l:GLink} {times:List Int}:Ctr (ic l times) (fun (res:Bool)=>aj Tryz.prog 210 [.agg (GLink.enc l),.loc [.sl (ab eI times)]] [] (.lit (.bool res)) []):=⟨by
 intro res h0
 refine co (hi:=EW) Tryz.func210 rfl rfl ?_
 unfold ic at h0
 exact run⟩
attribute [go_sem] Tryz.ntmps133 Tryz.results133
instance k133 {s:ap} {times:List Int}:Ctr (gR s times) (fun (res:Int)=>aj Tryz.prog 133 [.agg [.lit (.int .i64 s.events),.sl (ab GLink.enc s.links)],.sl (ab eI times)] [] (.lit (.int .i64 res)) []):=⟨by
 intro res h0
 refine co (hi:=hi00) Tryz.func133 rfl rfl ?_
 unfold gR at h0
 obtain ⟨r01,g0,h0⟩:=af h0
 simp(config:=cS)only[go_sem, *]
 have g0:=ctr g0
 refine ah g0 ?_
 obtain ⟨_,h0⟩|⟨_,h0⟩:=itB h0
 ·obtain ⟨r02,g0,h0⟩:=af h0
  simp(config:=cS)only[go_sem, *]
  refine ah (mj (by exact fun _ _ hr=>by have q:=ctr hr;exact q) (by refine ⟨fun _=>?_,fun _=>?_⟩ <;> simp only [go_sem]) (fun _=>rfl) rfl g0) ?_
  exact run
 ·exact run⟩
attribute [go_sem] Tryz.ntmps63 Tryz.results63
instance k63 {s:ap} {times:List Int}:Ctr (gS s times) (fun (res:Bool)=>aj Tryz.prog 63 [.agg [.lit (.int .i64 s.events),.sl (ab GLink.enc s.links)],.sl (ab eI times)] [] (.lit (.bool res)) []):=⟨by
 intro res h0
 refine co (hi:=hi00) Tryz.func63 rfl rfl ?_
 unfold gS at h0
 obtain ⟨r01,g0,h0⟩:=af h0
 simp(config:=cS)only[go_sem, *]
 have g0:=ctr g0
 refine ah g0 ?_
 obtain ⟨_,h0⟩|⟨_,h0⟩:=itB h0
 ·obtain ⟨x02,g1,h0⟩:=af h0
  have:=cR (k:=0) g1
  exact run
 ·exact run⟩
def nu (d:List Int)(e:Int)(f:List GNode)(g:List GTie)(h:Int)(b c:List Int):(Int × (List Int))→St
 | (i,a)=>⟨[(3,.ptr 192 1 0 0),(4,.ptr 256 1 0 0),(7,.ref 1600 1 0 a.length),(26,.sl (ab eI d)),(27,.lit (.int .i64 e)),(28,.lit (.int .i64 i))],[(192,1,.var [.sl (ab GNode.encS f),.sl (ab GTie.enc g),.lit (.int .i64 h)]),(256,1,.var [.sl (ab eI b),.sl (ab eI c)]),(1600,1,.row true (ab eI a))],2⟩
attribute [go_sem] nu
attribute [go_sem] Tryz.ntmps15 Tryz.results15
instance k15 {s:GShow} {v1:GChoice} {times:List Int}:Ctr (jk s v1 times) (fun (res:Bool)=>aj Tryz.prog 15 [.agg (GShow.encS s),.agg [.sl (ab eI v1.lengths),.sl (ab eI v1.values)],.sl (ab eI times)] [] (.lit (.bool res)) []):=⟨by
 intro res h0
 refine co (hi:=hi00) Tryz.func15 rfl rfl ?_
 unfold jk at h0
 obtain ⟨r01,g0,h0⟩:=af h0
 simp(config:=cS)only[go_sem, *]
 have g0:=ctr g0
 refine ah g0 ?_
 obtain ⟨_,h0⟩|⟨_,h0⟩:=itB h0
 ·obtain ⟨_,h0⟩|⟨_,h0⟩:=itP h0
  ·obtain ⟨r02,g0,h0⟩:=af h0
   simp(config:=cS)only[go_sem, *]
   have g0:=ctr g0
   refine ah g0 ?_
   obtain ⟨q08,l0,h0⟩:=af h0
   simp(config:=cS)only[go_sem, *]
   refine ak (m1:=.mk) (m2:=.mk) [.nf [3,4,7,26,27,28] [192,256,1600]] (nu times ((times.length:Nat):Int) s.nodes s.ties s.horizon v1.lengths v1.values) l0 ?_ ?_
   ·simp(config:=cS)only[go_sem, *]
   ·have k0:=h0
    clear h0 l0
    intro _ s0 _ h0 gb0
    obtain ⟨v28_1,filled_1⟩:=s0
    unfold di at h0
    try dsimp only at h0
    obtain ⟨_,h0⟩|⟨_,h0⟩:=itP h0
    ·obtain ⟨x03,_,_,_,h0⟩:=gtI h0
     obtain ⟨r04,g0,h0⟩:=af h0
     simp(config:=cS)only[go_sem, *]
     have g0:=ctr g0
     refine ah g0 ?_
     obtain ⟨_,h0⟩|⟨_,h0⟩:=itP h0
     ·simp(config:=cS)only[go_sem, *]
      exact run
     ·exact run
    ·exact run
  ·exact run
 ·exact run⟩
def pM (a:Bool)(b:Int)(c:List GNode)(d:List GTie)(e n:Int):St:=⟨[(1,.lit (.bool a)),(2,.ptr 128 1 0 0),(5,.lit (.int .i64 n)),(6,.lit (.int .i64 b))],[(128,1,.var [.sl (ab GNode.encS c),.sl (ab GTie.enc d),.lit (.int .i64 e)])],2⟩
attribute [go_sem] pM
attribute [go_sem] Tryz.ntmps20 Tryz.results20
def uw (a b:List Int)(i:Int):St:=⟨[(0,.sl (ab eI a)),(1,.sl (ab eI b)),(5,.lit (.int .i64 i))],[],2⟩
attribute [go_sem] uw
@[go_sem] def hi18_6:DT:=.r2 0 9 .nil
def hi18:Hint where
 acts:=fun _=>[]
 draws:=fun
  | 6=>⟨hi18_6,[[],[],[0,1],[0,1,2],[],[],[4,5],[4,5,6],.range 8],.range 9⟩
  | _=>⟨.nil,[],[]⟩
theorem TJ (i:Nat):hi18.acts i=[]:=rfl
theorem TL (i:Nat):hi18.views i=none:=rfl
attribute [go_sem] TJ TL Tryz.ntmps18 Tryz.results18
@[go_sem] theorem WS:(hi18.draws 6).order=hi18_6:=rfl
attribute [go_sem] Tryz.ntmps134 Tryz.results134
def tK (a b:List GNode)(i:Int):St:=⟨[(0,.sl (ab GNode.encS a)),(1,.sl (ab GNode.encS b)),(5,.lit (.int .i64 i))],[],2⟩
attribute [go_sem] tK
@[go_sem] def hi64_6:DT:=.r2 0 10 .nil
def hi64:Hint where
 acts:=fun _=>[]
 draws:=fun
  | 6=>⟨hi64_6,[[],[],[0,1],[0,1,2],[],[],[4,5],[4,5,6],.range 8,.range 9],.range 10⟩
  | _=>⟨.nil,[],[]⟩
theorem TM (i:Nat):hi64.acts i=[]:=rfl
theorem TN (i:Nat):hi64.views i=none:=rfl
attribute [go_sem] TM TN Tryz.ntmps64 Tryz.results64
@[go_sem] theorem WT:(hi64.draws 6).order=hi64_6:=rfl
attribute [go_sem] Tryz.ntmps135 Tryz.results135
def ux (a b:List GTie)(i:Int):St:=⟨[(0,.sl (ab GTie.enc a)),(1,.sl (ab GTie.enc b)),(5,.lit (.int .i64 i))],[],2⟩
attribute [go_sem] ux
@[go_sem] def hi65_6:DT:=.r2 0 10 .nil
def hi65:Hint where
 acts:=fun _=>[]
 draws:=fun
  | 6=>⟨hi65_6,[[],[],[0,1],[0,1,2],[],[],[4,5],[4,5,6],.range 8,.range 9],.range 10⟩
  | _=>⟨.nil,[],[]⟩
theorem TO (i:Nat):hi65.acts i=[]:=rfl
theorem TP (i:Nat):hi65.views i=none:=rfl
attribute [go_sem] TO TP Tryz.ntmps65 Tryz.results65
@[go_sem] theorem WU:(hi65.draws 6).order=hi65_6:=rfl
attribute [go_sem] Tryz.ntmps16 Tryz.results16
@[go_sem] def hi4_10:DT:=.i1 0 (.i2 1 (.i0 2 [0] (.i2 3 (.i2 4 .nil))))
def hi4:Hint where
 acts:=fun _=>[]
 draws:=fun
  | 10=>⟨hi4_10,[[],[],[1],[0,1,2],[0,1,2,3]],.range 5⟩
  | _=>⟨.nil,[],[]⟩
theorem hi4a (i:Nat):hi4.acts i=[]:=rfl
theorem hi4v (i:Nat):hi4.views i=none:=rfl
attribute [go_sem] hi4a hi4v Tryz.ntmps4 Tryz.results4
@[go_sem] theorem WV:(hi4.draws 10).order=hi4_10:=rfl
attribute [go_sem] Tryz.ntmps236 Tryz.results236
def sP (b:List Int)(c:Int):(Int × (List ByteArray))→St
 | (d,a)=>⟨[(3,.ref 255 1 0 a.length),(6,.sl (ab eI b)),(7,.lit (.int .i64 c)),(8,.lit (.int .i64 d))],[(255,1,.row true (ab eS a))],2⟩
attribute [go_sem] sP
attribute [go_sem] Tryz.ntmps153 Tryz.results153
@[go_sem] def hi77_1:DT:=.i2 0 (.i2 1 (.i1 3 (.i1 4 (.i1 6 (.i1 7 (.i1 9 (.i1 10 (.i0 2 [3,4,6,7,9,10] (.i0 5 [6,7,9,10] (.i0 8 [9,10] (.r2 11 4 .nil)))))))))))
def hi77:Hint where
 acts:=fun _=>[]
 draws:=fun
  | 1=>⟨hi77_1,[[],[0],[0,1],[],[3],.range 5,[],[6],.range 8,[],[9],.range 11,.range 12,.range 13,.range 14],.range 15⟩
  | _=>⟨.nil,[],[]⟩
theorem TQ (i:Nat):hi77.acts i=[]:=rfl
theorem TR (i:Nat):hi77.views i=none:=rfl
attribute [go_sem] TQ TR Tryz.ntmps77 Tryz.results77
@[go_sem] theorem WW:(hi77.draws 1).order=hi77_1:=rfl
end Go.Proofs.Qf
