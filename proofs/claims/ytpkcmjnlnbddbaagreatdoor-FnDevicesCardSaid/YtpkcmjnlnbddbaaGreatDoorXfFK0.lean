/- Functions. -/
import Derived.Test.YtpkcmjnlnbddbaaGreatDoorXfX
import Derived.Test.YtpkcmjnlnbddbaaGreatDoorXf37
set_option linter.all false
set_option maxRecDepth 100000
set_option maxHeartbeats 4000000
namespace Go.Proofs.Qf
open Go
theorem co {hi:Hint}{f:FuncId}{fn:Func}{c:Code}{args:List AV}{h0 h':Hp}{r:AV}(hf:Tryz.prog.funcs[f]?=some fn)(hn:(fn.name == "runtime.NumGoroutine")=false) (hb:fn.body=some c) (h:bV Tryz.prog mdT T fn.ntmps hi c ⟨nO 0 args,h0,1⟩ (retK T [] fn.results.toList (h0.map (·.1)) (fun r1 h1=>r1=r∧h1=h'))) (hc:jb hi c=true:=by decide +kernel) (hlen:args.length≤fn.ntmps:=by simp):aj Tryz.prog f args h0 r h':=aE (ra:=[]) (md:=mdT) hT hf hn hb hc hlen h
attribute [go_sem] Tryz.ntmps53 Tryz.results53
attribute [go_sem] Tryz.ntmps117 Tryz.results117
def tz (a:List GNode):(Int × Int)→St
 | (b,i)=>⟨[(0,.sl (ab GNode.encS a)),(1,.lit (.int .i64 b)),(5,.lit (.int .i64 i))],[],2⟩
attribute [go_sem] tz
attribute [go_sem] Tryz.ntmps51 Tryz.results51
attribute [go_sem] Tryz.ntmps52 Tryz.results52
attribute [go_sem] Tryz.ntmps9 Tryz.results9
def uo (a:List Int):(Int × (List Int))→St
 | (i,b)=>⟨[(0,.sl (ab eI a)),(3,.ref 448 1 0 b.length),(4,.lit (.int .i64 i))],[(448,1,.row true (ab eI b))],2⟩
attribute [go_sem] uo
attribute [go_sem] Tryz.ntmps14 Tryz.results14
attribute [go_sem] Tryz.ntmps127 Tryz.results127
def tA (a:List GNode):(Int × (List GNode))→St
 | (i,b)=>⟨[(0,.sl (ab GNode.encS a)),(3,.ref 448 1 0 b.length),(4,.lit (.int .i64 i))],[(448,1,.row true (ab GNode.encO b))],2⟩
attribute [go_sem] tA
attribute [go_sem] Tryz.ntmps57 Tryz.results57
attribute [go_sem] Tryz.ntmps128 Tryz.results128
def uq (a:List GTie):(Int × (List GTie))→St
 | (i,b)=>⟨[(0,.sl (ab GTie.enc a)),(3,.ref 448 1 0 b.length),(4,.lit (.int .i64 i))],[(448,1,.row true (ab GTie.enc b))],2⟩
attribute [go_sem] uq
attribute [go_sem] Tryz.ntmps58 Tryz.results58
attribute [go_sem] Tryz.ntmps12 Tryz.results12
attribute [go_sem] Tryz.ntmps124 Tryz.results124
instance k124 {n:Int} {lo:Int} {hi:Int}:Ctr (cG n lo hi) (fun (res:Bool)=>aj Tryz.prog 124 [.lit (.int .i64 n),.lit (.int .i64 lo),.lit (.int .i64 hi)] [] (.lit (.bool res)) []):=⟨by
 intro res h0
 refine co (hi:=hi00) Tryz.func124 rfl rfl ?_
 unfold cG at h0
 exact run⟩
def oP (s:ByteArray)(i:Int):St:=⟨[(0,.lit (.string s)),(3,.lit (.int .i64 i))],[],2⟩
attribute [go_sem] oP
attribute [go_sem] Tryz.ntmps274 Tryz.results274
instance k274 {s:ByteArray}:Ctr (kN s) (fun (res:Bool)=>aj Tryz.prog 274 [.lit (.string s)] [] (.lit (.bool res)) []):=⟨by
 intro res h0
 refine co (hi:=hi00) Tryz.func274 rfl rfl ?_
 unfold kN at h0
 obtain ⟨q03,l0,h0⟩:=af h0
 simp(config:=cS)only[go_sem, *]
 refine ak (m1:=.mk) (m2:=.mk) [.nf [0,3] []] (oP s) l0 ?_ ?_
 ·simp(config:=cS)only[go_sem, *]
 ·have k0:=h0
  clear h0 l0
  intro _ i_1 _ h0 gb0
  unfold fO at h0
  try dsimp only at h0
  exact run⟩
attribute [go_sem] Tryz.ntmps122 Tryz.results122
instance k122 {n:Int}:Ctr (dw n) (fun (res:Int)=>aj Tryz.prog 122 [.lit (.int .i64 n)] [] (.lit (.int .i64 res)) []):=⟨by
 intro res h0
 refine co (hi:=hi00) Tryz.func122 rfl rfl ?_
 unfold dw at h0
 exact run⟩
def nT (l:List Int)(a b:Int):St:=⟨[(0,.sl (ab eI l)),(5,.sl (ab eI l)),(6,.lit (.int .i64 a)),(7,.lit (.int .i64 b))],[],2⟩
attribute [go_sem] nT
attribute [go_sem] Tryz.ntmps275 Tryz.results275
instance k275 {l:List Int}:Ctr (fP l) (fun (res:Bool)=>aj Tryz.prog 275 [.sl (ab eI l)] [] (.lit (.bool res)) []):=⟨by
 intro res h0
 refine co (hi:=hi00) Tryz.func275 rfl rfl ?_
 unfold fP at h0
 obtain ⟨q06,l0,h0⟩:=af h0
 simp(config:=cS)only[go_sem, *]
 refine ak (m1:=.mk) (m2:=.mk) [.nf [0,5,6,7] []] (nT l ((l.length:Nat):Int)) l0 ?_ ?_
 ·simp(config:=cS)only[go_sem, *]
 ·have k0:=h0
  clear h0 l0
  intro _ v7_1 _ h0 gb0
  unfold fa at h0
  try dsimp only at h0
  exact run⟩
attribute [go_sem] Tryz.ntmps217 Tryz.results217
instance k217 {n:GNode}:Ctr (kO n) (fun (res:Bool)=>aj Tryz.prog 217 [.agg (GNode.encS n)] [] (.lit (.bool res)) []):=⟨by
 intro res h0
 refine co (hi:=hi00) Tryz.func217 rfl rfl ?_
 unfold kO at h0
 exact run⟩
def mt (a:ByteArray)(c:List GNode)(d b:Int):St:=⟨[(1,.lit (.string a)),(8,.sl (ab GNode.encS c)),(9,.lit (.int .i64 d)),(10,.lit (.int .i64 b))],[],2⟩
attribute [go_sem] mt
attribute [go_sem] Tryz.ntmps218 Tryz.results218
instance k218 {s:GShow} {name:ByteArray}:Ctr (iz s name) (fun (res:Int)=>aj Tryz.prog 218 [.agg (GShow.encS s),.lit (.string name)] [] (.lit (.int .i64 res)) []):=⟨by
 intro res h0
 refine co (hi:=hi00) Tryz.func218 rfl rfl ?_
 unfold iz at h0
 obtain ⟨q02,l0,h0⟩:=af h0
 simp(config:=cS)only[go_sem, *]
 refine ak (m1:=.mk) (m2:=.mk) [.nf [1,8,9,10] []] (mt name s.nodes ((s.nodes.length:Nat):Int)) l0 ?_ ?_
 ·simp(config:=cS)only[go_sem, *]
 ·have k0:=h0
  clear h0 l0
  intro _ v10_1 _ h0 gb0
  unfold dN at h0
  try dsimp only at h0
  exact run⟩
def mf (p:Int)(b:List GNode)(c a:Int):St:=⟨[(1,.lit (.int .i64 p)),(8,.sl (ab GNode.encS b)),(9,.lit (.int .i64 c)),(10,.lit (.int .i64 a))],[],2⟩
attribute [go_sem] mf
attribute [go_sem] Tryz.ntmps121 Tryz.results121
instance k121 {s:GShow} {p:Int}:Ctr (cf s p) (fun (res:Int)=>aj Tryz.prog 121 [.agg (GShow.encS s),.lit (.int .i64 p)] [] (.lit (.int .i64 res)) []):=⟨by
 intro res h0
 refine co (hi:=hi00) Tryz.func121 rfl rfl ?_
 unfold cf at h0
 obtain ⟨q02,l0,h0⟩:=af h0
 simp(config:=cS)only[go_sem, *]
 refine ak (m1:=.mk) (m2:=.mk) [.nf [1,8,9,10] []] (mf p s.nodes ((s.nodes.length:Nat):Int)) l0 ?_ ?_
 ·simp(config:=cS)only[go_sem, *]
 ·have k0:=h0
  clear h0 l0
  intro _ v10_1 _ h0 gb0
  unfold dx at h0
  try dsimp only at h0
  exact run⟩
def oQ (n:Int)(a:List Int)(b c:Int):St:=⟨[(1,.lit (.int .i64 n)),(7,.sl (ab eI a)),(8,.lit (.int .i64 b)),(9,.lit (.int .i64 c))],[],2⟩
attribute [go_sem] oQ
attribute [go_sem] Tryz.ntmps219 Tryz.results219
instance k219 {l:List Int} {n:Int}:Ctr (dZ l n) (fun (res:Bool)=>aj Tryz.prog 219 [.sl (ab eI l),.lit (.int .i64 n)] [] (.lit (.bool res)) []):=⟨by
 intro res h0
 refine co (hi:=hi00) Tryz.func219 rfl rfl ?_
 unfold dZ at h0
 obtain ⟨q02,l0,h0⟩:=af h0
 simp(config:=cS)only[go_sem, *]
 refine ak (m1:=.mk) (m2:=.mk) [.nf [1,7,8,9] []] (oQ n l ((l.length:Nat):Int)) l0 ?_ ?_
 ·simp(config:=cS)only[go_sem, *]
 ·have k0:=h0
  clear h0 l0
  intro _ v9_1 _ h0 gb0
  unfold fQ at h0
  try dsimp only at h0
  exact run⟩
def lp (a b:List Int)(c d:Int):St:=⟨[(0,.sl (ab eI a)),(15,.sl (ab eI b)),(16,.lit (.int .i64 c)),(17,.lit (.int .i64 d))],[],2⟩
attribute [go_sem] lp
attribute [go_sem] Tryz.ntmps220 Tryz.results220
instance k220 {a:List Int} {b:List Int}:Ctr (dO a b) (fun (res:Bool)=>aj Tryz.prog 220 [.sl (ab eI a),.sl (ab eI b)] [] (.lit (.bool res)) []):=⟨by
 intro res h0
 refine co (hi:=hi00) Tryz.func220 rfl rfl ?_
 unfold dO at h0
 obtain ⟨r01,g0,h0⟩:=af h0
 simp(config:=cS)only[go_sem, *]
 have g0:=ctr g0
 refine ah g0 ?_
 obtain ⟨_,h0⟩|⟨_,h0⟩:=itB h0
 ·obtain ⟨r02,g0,h0⟩:=af h0
  simp(config:=cS)only[go_sem, *]
  have g0:=ctr g0
  refine ah g0 ?_
  obtain ⟨_,h0⟩|⟨_,h0⟩:=itB h0
  ·obtain ⟨q05,l0,h0⟩:=af h0
   simp(config:=cS)only[go_sem, *]
   refine ak (m1:=.mk) (m2:=.mk) [.nf [0,15,16,17] []] (lp a b ((b.length:Nat):Int)) l0 ?_ ?_
   ·simp(config:=cS)only[go_sem, *]
   ·have k0:=h0
    clear h0 l0
    intro _ v17_1 _ h0 gb0
    unfold cK at h0
    try dsimp only at h0
    exact run
  ·exact run
 ·exact run⟩
def mX (a:List GNode)(b:Int)(c:List GTie)(d e:Int):St:=⟨[(1,.ptr 64 1 0 0),(33,.sl (ab GNode.encS a)),(34,.lit (.int .i64 b)),(35,.lit (.int .i64 e))],[(64,1,.var [.sl (ab GNode.encS a),.sl (ab GTie.enc c),.lit (.int .i64 d)])],2⟩
attribute [go_sem] mX
def mY (a:List GNode)(c d:Int)(b:List Int)(e:Int)(f:List GTie)(g:Int)(h:ByteArray)(i j:Int):St:=⟨[(1,.ptr 64 1 0 0),(6,.ptr 384 1 0 0),(66,.sl (ab GNode.encS a)),(67,.lit (.int .i64 c)),(68,.lit (.int .i64 d)),(73,.sl (ab eI b)),(74,.lit (.int .i64 e)),(75,.lit (.int .i64 j))],[(64,1,.var [.sl (ab GNode.encS a),.sl (ab GTie.enc f),.lit (.int .i64 g)]),(384,1,.var [.lit (.string h),.sl (ab eI b),.lit (.int .i64 i)])],2⟩
attribute [go_sem] mY
def mZ (a:List GNode)(b:Int)(c:List GTie)(d e:Int):St:=⟨[(1,.ptr 64 1 0 0),(66,.sl (ab GNode.encS a)),(67,.lit (.int .i64 b)),(68,.lit (.int .i64 e))],[(64,1,.var [.sl (ab GNode.encS a),.sl (ab GTie.enc c),.lit (.int .i64 d)])],2⟩
attribute [go_sem] mZ
@[go_sem] def hi140_16:DT:=.r2 0 35 .nil
@[go_sem] def hi140_15:DT:=.i1 0 (.i2 1 (.i0 2 [0] (.i2 3 (.i2 4 .nil))))
def AF:Hint where
 acts:=fun _=>[]
 draws:=fun
  | 15=>⟨hi140_15,[[],[],[1],[0,1,2],[0,1,2,3]],.range 5⟩
  | 16=>⟨hi140_16,[[],[0],[0,1],[0,1,2],[0,1,2,3],[0,1,2],.range 6,.range 7,.range 8,[0,1,2],.range 10,.range 11,.range 12,.range 13,.range 14,.range 13,.range 16,.range 17,.range 18,.range 13,[0,1,2,3,4,5,6,7,8,9,10,11,12,19],.range 21,.range 22,.range 23,.range 24,.range 25,.range 24,[0,1,2,3,4,5,6,7,8,9,10,11,12,13,14,15,16,17,18,19,20,21,22,23,26],.range 24,[0,1,2,3,4,5,6,7,8,9,10,11,12,13,14,15,16,17,18,19,20,21,22,23,26,27,28],[0,1,2,3,4,5,6,7,8,9,10,11,12,13,14,15,16,17,18,19,20,21,22,23,26,27,28,29],[0,1,2,3,4,5,6,7,8,9,10,11,12,13,14,15,16,17,18,19,20,21,22,23,26,27,28,29,30],.range 32,.range 33,.range 34],.range 35⟩
  | _=>⟨.nil,[],[]⟩
theorem Qi (i:Nat):AF.acts i=[]:=rfl
theorem Qj (i:Nat):AF.views i=none:=rfl
attribute [go_sem] Qi Qj Tryz.ntmps140 Tryz.results140
@[go_sem] theorem Ui:(AF.draws 15).order=hi140_15:=rfl
@[go_sem] theorem Uj:(AF.draws 16).order=hi140_16:=rfl
instance k140 {s:GShow}:Ctr (jd s) (fun (res:Bool)=>aj Tryz.prog 140 [.agg (GShow.encS s)] [] (.lit (.bool res)) []):=⟨by
 intro res h0
 refine co (hi:=AF) Tryz.func140 rfl rfl ?_
 unfold jd at h0
 obtain ⟨r01,g0,h0⟩:=af h0
 simp(config:=cS)only[go_sem, *]
 have g0:=ctr g0
 refine ah g0 ?_
 obtain ⟨_,h0⟩|⟨_,h0⟩:=itB h0
 ·obtain ⟨x02,g1,h0⟩:=af h0
  have:=cR (k:=0) g1
  obtain ⟨_,h0⟩|⟨_,h0⟩:=itP h0
  ·exact run
  ·obtain ⟨_,h0⟩|⟨_,h0⟩:=itP h0
   ·obtain ⟨q17,l0,h0⟩:=af h0
    simp(config:=cS)only[go_sem, *]
    refine ak (m1:=.mk) (m2:=.mk) [.nf [1,33,34,35] [64]] (mX s.nodes ((s.nodes.length:Nat):Int) s.ties s.horizon) l0 ?_ ?_
    ·simp(config:=cS)only[go_sem, *]
    ·have k0:=h0
     clear h0 l0
     intro _ v35_1 _ h0 gb0
     unfold ej at h0
     try dsimp only at h0
     obtain ⟨_,h0⟩|⟨_,h0⟩:=itP h0
     ·exact run
     ·cases h0
      obtain rfl:=(bc gb0).symm
      clear gb0
      have h0:=k0
      clear k0
      try dsimp only at h0
      obtain ⟨q16,l0,h0⟩:=af h0
      simp(config:=cS)only[go_sem, *]
      refine ak (m1:=.mk) (m2:=.mk) [.nf [1,66,67,68] [64]] (mZ s.nodes ((s.nodes.length:Nat):Int) s.ties s.horizon) l0 ?_ ?_
      ·simp(config:=cS)only[go_sem, *]
      ·have k0:=h0
       clear h0 l0
       intro _ v68_2 _ h0 gb0
       unfold em at h0
       try dsimp only at h0
       obtain ⟨_,h0⟩|⟨_,h0⟩:=itP h0
       ·obtain ⟨x07,_,_,_,h0⟩:=gtI h0
        obtain ⟨q15,l0,h0⟩:=af h0
        simp(config:=cS)only[go_sem, *]
        refine ak (m1:=.mk) (m2:=.mk) [.nf [1,6,66,67,68,73,74,75] [64,384]] (mY s.nodes ((s.nodes.length:Nat):Int) v68_2 x07.label ((x07.label.length:Nat):Int) s.ties s.horizon x07.name x07.watch) l0 ?_ ?_
        ·simp(config:=cS)only[go_sem, *]
        ·have k0:=h0
         clear h0 l0
         intro _ v75_3 _ h0 gb0
         unfold ek at h0
         try dsimp only at h0
         exact run
       ·exact run
   ·exact run
 ·exact run⟩
def nU (b a:List Int)(c d:Int):St:=⟨[(1,.sl (ab eI b)),(12,.sl (ab eI a)),(13,.lit (.int .i64 c)),(14,.lit (.int .i64 d))],[],2⟩
attribute [go_sem] nU
attribute [go_sem] Tryz.ntmps221 Tryz.results221
instance k221 {a:List Int} {b:List Int}:Ctr (jU a b) (fun (res:Bool)=>aj Tryz.prog 221 [.sl (ab eI a),.sl (ab eI b)] [] (.lit (.bool res)) []):=⟨by
 intro res h0
 refine co (hi:=hi00) Tryz.func221 rfl rfl ?_
 unfold jU at h0
 obtain ⟨_,h0⟩|⟨_,h0⟩:=itP h0
 ·obtain ⟨q03,l0,h0⟩:=af h0
  simp(config:=cS)only[go_sem, *]
  refine ak (m1:=.mk) (m2:=.mk) [.nf [1,12,13,14] []] (nU b a ((a.length:Nat):Int)) l0 ?_ ?_
  ·simp(config:=cS)only[go_sem, *]
  ·have k0:=h0
   clear h0 l0
   intro _ v14_1 _ h0 gb0
   unfold fb at h0
   try dsimp only at h0
   exact run
 ·exact run⟩
def nV (a:Int)(c:List GTie)(d b:Int):St:=⟨[(1,.lit (.int .i64 a)),(8,.sl (ab GTie.enc c)),(9,.lit (.int .i64 d)),(10,.lit (.int .i64 b))],[],2⟩
attribute [go_sem] nV
attribute [go_sem] Tryz.ntmps222 Tryz.results222
instance k222 {s:GShow} {node:Int}:Ctr (jV s node) (fun (res:Int)=>aj Tryz.prog 222 [.agg (GShow.encS s),.lit (.int .i64 node)] [] (.lit (.int .i64 res)) []):=⟨by
 intro res h0
 refine co (hi:=hi00) Tryz.func222 rfl rfl ?_
 unfold jV at h0
 obtain ⟨q02,l0,h0⟩:=af h0
 simp(config:=cS)only[go_sem, *]
 refine ak (m1:=.mk) (m2:=.mk) [.nf [1,8,9,10] []] (nV node s.ties ((s.ties.length:Nat):Int)) l0 ?_ ?_
 ·simp(config:=cS)only[go_sem, *]
 ·have k0:=h0
  clear h0 l0
  intro _ v10_1 _ h0 gb0
  unfold fc at h0
  try dsimp only at h0
  exact run⟩
@[go_sem] def hi141_5:DT:=.r2 0 43 (.i2 44 (.i2 43 (.r2 45 4 .nil)))
def Ez:Hint where
 acts:=fun _=>[]
 draws:=fun
  | 5=>⟨hi141_5,[[],[0],[0,1],[0,1,2],[0,1,2,3],.range 5,.range 6,.range 7,.range 8,.range 9,.range 10,.range 11,.range 12,.range 13,.range 14,.range 13,[0,1,2,3,4,5,6,7,8,9,10,11,12,15],.range 17,.range 18,.range 19,.range 20,.range 21,.range 22,.range 23,.range 24,.range 23,[0,1,2,3,4,5,6,7,8,9,10,11,12,13,14,15,16,17,18,19,20,21,22,25],.range 27,.range 28,.range 29,.range 23,[0,1,2,3,4,5,6,7,8,9,10,11,12,13,14,15,16,17,18,19,20,21,22,30],.range 23,[0,1,2,3,4,5,6,7,8,9,10,11,12,13,14,15,16,17,18,19,20,21,22,32],[0,1,2,3,4,5,6,7,8,9,10,11,12,13,14,15,16,17,18,19,20,21,22,30,31,32,33],[0,1,2,3,4,5,6,7,8,9,10,11,12,13,14,15,16,17,18,19,20,21,22,30,31,32,33,34],[0,1,2,3,4,5,6,7,8,9,10,11,12,13,14,15,16,17,18,19,20,21,22,30,31,32,33,34,35],.range 37,.range 38,.range 39,.range 40,.range 40,[0,1,2,3,4,5,6,7,8,9,10,11,12,13,14,15,16,17,18,19,20,21,22,23,24,25,26,27,28,29,30,31,32,33,34,35,36,37,38,39,41],.range 43,.range 40,.range 45,.range 46,.range 47,.range 48],.range 49⟩
  | _=>⟨.nil,[],[]⟩
theorem Qk (i:Nat):Ez.acts i=[]:=rfl
theorem Ql (i:Nat):Ez.views i=none:=rfl
attribute [go_sem] Qk Ql Tryz.ntmps141 Tryz.results141
@[go_sem] theorem Vh:(Ez.draws 5).order=hi141_5:=rfl
instance k141 {s:GShow} {i:Int}:Ctr (kP s i) (fun (res:Bool)=>aj Tryz.prog 141 [.agg (GShow.encS s),.lit (.int .i64 i)] [] (.lit (.bool res)) []):=⟨by
 intro res h0
 refine co (hi:=Ez) Tryz.func141 rfl rfl ?_
 unfold kP at h0
 exact run⟩
def oR (a:Int)(b:List GNode)(c:List GTie)(d e:Int):St:=⟨[(1,.ptr 64 1 0 0),(21,.lit (.int .i64 a)),(22,.lit (.int .i64 e))],[(64,1,.var [.sl (ab GNode.encS b),.sl (ab GTie.enc c),.lit (.int .i64 d)])],2⟩
attribute [go_sem] oR
attribute [go_sem] Tryz.ntmps69 Tryz.results69
instance k69 {s:GShow}:Ctr (kQ s) (fun (res:Bool)=>aj Tryz.prog 69 [.agg (GShow.encS s)] [] (.lit (.bool res)) []):=⟨by
 intro res h0
 refine co (hi:=hi00) Tryz.func69 rfl rfl ?_
 unfold kQ at h0
 obtain ⟨r01,g0,h0⟩:=af h0
 simp(config:=cS)only[go_sem, *]
 have g0:=ctr g0
 refine ah g0 ?_
 obtain ⟨_,h0⟩|⟨_,h0⟩:=itB h0
 ·obtain ⟨_,h0⟩|⟨_,h0⟩:=itP h0
  ·exact run
  ·obtain ⟨r02,g0,h0⟩:=af h0
   simp(config:=cS)only[go_sem, *]
   have g0:=ctr g0
   refine ah g0 ?_
   obtain ⟨_,h0⟩|⟨_,h0⟩:=itB h0
   ·obtain ⟨q04,l0,h0⟩:=af h0
    simp(config:=cS)only[go_sem, *]
    refine ak (m1:=.mk) (m2:=.mk) [.nf [1,21,22] [64]] (oR ((s.ties.length:Nat):Int) s.nodes s.ties s.horizon) l0 ?_ ?_
    ·simp(config:=cS)only[go_sem, *]
    ·have k0:=h0
     clear h0 l0
     intro _ v22_1 _ h0 gb0
     unfold fR at h0
     try dsimp only at h0
     exact run
   ·exact run
 ·exact run⟩
def nW (c:List GTie)(d:Int):(Int × (List Int))→St
 | (b,a)=>⟨[(3,.ref 384 1 0 a.length),(8,.sl (ab GTie.enc c)),(9,.lit (.int .i64 d)),(10,.lit (.int .i64 b))],[(384,1,.row true (ab eI a))],2⟩
attribute [go_sem] nW
attribute [go_sem] Tryz.ntmps136 Tryz.results136
instance k136 {s:GShow}:Ctr (ip s) (fun (res:List Int)=>aj Tryz.prog 136 [.agg (GShow.encS s)] [] (.ref 20000 1 0 res.length) [(20000,1,.row true (ab eI res))]):=⟨by
 intro res h0
 refine aE (ra:=[.home 2]) (md:=mdT) hT (hi:=hi00) Tryz.func136 rfl rfl (by decide +kernel) (by simp) ?_
 unfold ip at h0
 obtain ⟨q02,l0,h0⟩:=af h0
 simp(config:=cS)only[go_sem, *]
 refine ak (m1:=.mk) (m2:=.mk) [.nf [3,8,9,10] [384]] (nW s.ties ((s.ties.length:Nat):Int)) l0 ?_ ?_
 ·simp(config:=cS)only[go_sem, *]
 ·have k0:=h0
  clear h0 l0
  intro _ s0 _ h0 gb0
  obtain ⟨v10_1,out_1⟩:=s0
  unfold gK at h0
  try dsimp only at h0
  exact run⟩
def lq (b:Int)(c:List GNode)(d:List GTie)(e:Int)(a:List Int):(Int × Int)→St
 | (n,f)=>⟨[(1,.ptr 64 1 0 0),(3,.lit (.int .i64 n)),(11,.ref 704 1 0 a.length),(12,.lit (.int .i64 b)),(13,.lit (.int .i64 f))],[(64,1,.var [.sl (ab GNode.encS c),.sl (ab GTie.enc d),.lit (.int .i64 e)]),(704,1,.row true (ab eI a))],2⟩
attribute [go_sem] lq
def lr (a:List GNode)(b:List GTie)(c:Int):(Int × Int)→St
 | (n,p)=>⟨[(1,.ptr 64 1 0 0),(3,.lit (.int .i64 n)),(6,.lit (.int .i64 p))],[(64,1,.var [.sl (ab GNode.encS a),.sl (ab GTie.enc b),.lit (.int .i64 c)])],2⟩
attribute [go_sem] lr
@[go_sem] def hi66_7:DT:=.r2 0 17 .nil
def hi66:Hint where
 acts:=fun _=>[]
 draws:=fun
  | 7=>⟨hi66_7,[[],[],[1],[],[1,2,3],[1,2,3,4],[1,2,3,4,5],[],[7],[],[7,8,9],[7,8,9,10],[7,8,9,10,11],[1,2,3,4,5,6,7,8,9,10,11,12],[1,2,3,4,5,6,7,8,9,10,11,12,13],.range 15,.range 16],.range 17⟩
  | _=>⟨.nil,[],[]⟩
theorem SY (i:Nat):hi66.acts i=[]:=rfl
theorem SZ (i:Nat):hi66.views i=none:=rfl
attribute [go_sem] SY SZ Tryz.ntmps66 Tryz.results66
@[go_sem] theorem Wv:(hi66.draws 7).order=hi66_7:=rfl
instance k66 {s:GShow}:Ctr (cU s) (fun (res:Int)=>aj Tryz.prog 66 [.agg (GShow.encS s)] [] (.lit (.int .i64 res)) []):=⟨by
 intro res h0
 refine co (hi:=hi66) Tryz.func66 rfl rfl ?_
 unfold cU at h0
 obtain ⟨r01,g0,h0⟩:=af h0
 simp(config:=cS)only[go_sem, *]
 have g0:=ctr g0
 refine ah g0 ?_
 obtain ⟨_,h0⟩|⟨_,h0⟩:=itB h0
 ·obtain ⟨r02,g0,h0⟩:=af h0
  simp(config:=cS)only[go_sem, *]
  have g0:=ctr g0
  refine ah g0 ?_
  obtain ⟨q07,l0,h0⟩:=af h0
  simp(config:=cS)only[go_sem, *]
  refine ak (m1:=.mk) (m2:=.mk) [.nf [1,3,11,12,13] [64,704]] (lq ((r02.length:Nat):Int) s.nodes s.ties s.horizon r02) l0 ?_ ?_
  ·simp(config:=cS)only[go_sem, *]
  ·have k0:=h0
   clear h0 l0
   intro _ s0 _ h0 gb0
   obtain ⟨n_1,v13_1⟩:=s0
   unfold cP at h0
   try dsimp only at h0
   obtain ⟨_,h0⟩|⟨_,h0⟩:=itP h0
   ·exact run
   ·cases h0
    obtain rfl:=(bc gb0).symm
    clear gb0
    have h0:=k0
    clear k0
    try dsimp only at h0
    obtain ⟨q06,l0,h0⟩:=af h0
    simp(config:=cS)only[go_sem, *]
    refine ak (m1:=.mk) (m2:=.mk) [.nf [1,3,6] [64]] (lr s.nodes s.ties s.horizon) l0 ?_ ?_
    ·simp(config:=cS)only[go_sem, *]
    ·have k0:=h0
     clear h0 l0
     intro _ s0 _ h0 gb0
     obtain ⟨n_2,p_2⟩:=s0
     unfold dS at h0
     try dsimp only at h0
     exact run
 ·exact run⟩
def na (c:Int)(d:List GNode)(e:List GTie)(f:Int)(b:List Int):(Int × Int × (List Int))→St
 | (n,g,a)=>⟨[(1,.lit (.int .i64 n)),(2,.ptr 128 1 0 0),(4,.ptr 256 1 0 0),(6,.ptr 384 1 0 0),(21,.ref 1344 1 0 b.length),(22,.lit (.int .i64 c)),(23,.lit (.int .i64 g))],[(128,1,.var [.sl (ab GNode.encS d),.sl (ab GTie.enc e),.lit (.int .i64 f)]),(256,1,.var [.lit (.slice none 0 0),.lit (.slice none 0 0)]),(384,1,.var [.ref 100024576 1 0 a.length,.lit (.slice none 0 0)]),(100024576,1,.row true (ab eI a)),(1344,1,.row true (ab eI b))],2⟩
attribute [go_sem] na
def nc (c:List GNode)(d:List GTie)(e:Int)(a:List Int):(Int × Int × (List Int))→St
 | (n,p,b)=>⟨[(1,.lit (.int .i64 n)),(2,.ptr 128 1 0 0),(4,.ptr 256 1 0 0),(6,.ptr 384 1 0 0),(10,.lit (.int .i64 p))],[(128,1,.var [.sl (ab GNode.encS c),.sl (ab GTie.enc d),.lit (.int .i64 e)]),(256,1,.var [.lit (.slice none 0 0),.lit (.slice none 0 0)]),(384,1,.var [.ref 100024576 1 0 a.length,.ref 100024577 1 0 b.length]),(100024576,1,.row true (ab eI a)),(100024577,1,.row true (ab eI b))],2⟩
attribute [go_sem] nc
@[go_sem] def hi67_8:DT:=.i1 0 (.i1 1 (.r2 2 10 (.i0 12 [0,1] (.r2 13 3 .nil))))
@[go_sem] def hi67_7:DT:=.r2 0 15 .nil
def hi67:Hint where
 acts:=fun _=>[]
 draws:=fun
  | 7=>⟨hi67_7,[[],[0],[],[0,1,2],[0,1,2,3],.range 5,[],[6],[],[6,7,8],[6,7,8,9],[6,7,8,9,10],.range 12,.range 13,.range 14],.range 15⟩
  | 8=>⟨hi67_8,[[],[0],[],[2],[],[2,3,4],[2,3,4,5],[2,3,4,5,6],[],[],[8,9],[2,3,4,5,6,7,8,9,10],[2,3,4,5,6,7,8,9,10,11],.range 13,.range 14,.range 15],.range 16⟩
  | _=>⟨.nil,[],[]⟩
theorem Ta (i:Nat):hi67.acts i=[]:=rfl
theorem Tb (i:Nat):hi67.views i=none:=rfl
attribute [go_sem] Ta Tb Tryz.ntmps67 Tryz.results67
@[go_sem] theorem Ww:(hi67.draws 7).order=hi67_7:=rfl
@[go_sem] theorem Wx:(hi67.draws 8).order=hi67_8:=rfl
instance k67 {s:GShow} {n:Int}:Ctr (jl s n) (fun (res:GChoice × Bool)=>aj Tryz.prog 67 [.agg (GShow.encS s),.lit (.int .i64 n)] [] (.tup [.agg [.ref 20000 1 0 res.1.lengths.length,.ref 20001 1 0 res.1.values.length],.lit (.bool res.2)]) [(20000,1,.row true (ab eI res.1.lengths)),(20001,1,.row true (ab eI res.1.values))]):=⟨by
 intro res h0
 refine aE (ra:=[.homeCell 256 0,.homeCell 256 1]) (md:=mdT) hT (hi:=hi67) Tryz.func67 rfl rfl (by decide +kernel) (by simp) ?_
 unfold jl at h0
 obtain ⟨r01,g0,h0⟩:=af h0
 simp(config:=cS)only[go_sem, *]
 have g0:=ctr g0
 refine ah g0 ?_
 obtain ⟨r02,g0,h0⟩:=af h0
 simp(config:=cS)only[go_sem, *]
 have g0:=ctr g0
 refine ah g0 ?_
 obtain ⟨_,h0⟩|⟨_,h0⟩:=itB h0
 ·obtain ⟨r03,g0,h0⟩:=af h0
  simp(config:=cS)only[go_sem, *]
  have g0:=ctr g0
  refine ah g0 ?_
  obtain ⟨q08,l0,h0⟩:=af h0
  simp(config:=cS)only[go_sem, *]
  refine ak (m1:=.mk) (m2:=.mk) [.homeCell 384 0,.nf [1,2,4,6,21,22,23] [128,256,384,100024576,1344]] (na ((r03.length:Nat):Int) s.nodes s.ties s.horizon r03) l0 ?_ ?_
  ·simp(config:=cS)only[go_sem, *]
  ·have k0:=h0
   clear h0 l0
   intro _ s0 _ h0 gb0
   obtain ⟨n_1,v23_1,h100024576_1⟩:=s0
   unfold ey at h0
   try dsimp only at h0
   obtain ⟨_,h0⟩|⟨_,h0⟩:=itP h0
   ·exact run
   ·cases h0
    obtain rfl:=(bc gb0).symm
    clear gb0
    have h0:=k0
    clear k0
    try dsimp only at h0
    obtain ⟨q07,l0,h0⟩:=af h0
    simp(config:=cS)only[go_sem, *]
    refine ak (m1:=.mk) (m2:=.mk) [.homeCell 384 1,.nf [1,2,4,6,10] [128,256,384,100024576,100024577]] (nc s.nodes s.ties s.horizon h100024576_1) l0 ?_ ?_
    ·simp(config:=cS)only[go_sem, *]
    ·have k0:=h0
     clear h0 l0
     intro _ s0 _ h0 gb0
     obtain ⟨n_2,p_2,h100024577_2⟩:=s0
     unfold gu at h0
     try dsimp only at h0
     exact run
 ·exact run⟩
def tB (d:List GNode)(e c:Int)(b:List GTie):(Int × (List GNode))→St
 | (f,a)=>⟨[(2,.ptr 128 1 0 0),(3,.ptr 192 1 0 0),(14,.sl (ab GNode.encS d)),(15,.lit (.int .i64 e)),(16,.lit (.int .i64 f))],[(128,1,.var [.lit (.slice none 0 0),.lit (.slice none 0 0),.lit (.int .i64 0)]),(192,1,.var [.ref 100012288 1 0 a.length,.ref 384 1 0 b.length,.lit (.int .i64 c)]),(100012288,1,.row true (ab GNode.encO a)),(384,1,.row true (ab GTie.enc b))],2⟩
attribute [go_sem] tB
@[go_sem] def hi212_5:DT:=.i1 0 (.i1 1 (.i1 2 (.i1 3 (.i1 5 (.i1 6 (.i1 8 (.i1 9 (.i0 4 [0,1,2,3,5,6,8,9] (.i0 7 [0,1,2,3,8,9] (.i2 10 (.i0 11 [0,1] (.r2 12 3 .nil))))))))))))
@[go_sem] def hi212_1:DT:=.i1 1 (.i1 2 (.i1 4 (.i1 5 (.fork (.i0 0 [1,2,4,5] (.fork (.i0 3 [4,5] (.i2 6 (.i0 7 [1,2,4,5] (.i2 8 .nil)))) (.i0 7 [1,2,4,5] (.i0 3 [4,5] (.i2 6 (.i2 8 .nil)))))) (.i0 7 [1,2,4,5] (.i0 0 [1,2,4,5] (.i0 3 [4,5] (.i2 6 (.i2 8 .nil)))))))))
def EA:Hint where
 acts:=fun _=>[]
 draws:=fun
  | 1=>⟨hi212_1,[[],[],[1],[0,1,2],[],[4],.range 6,[],.range 8],.range 9⟩
  | 5=>⟨hi212_5,[[],[0],[],[2],[],[],[5],[4,5,6],[],[8],[2,3,4,5,6,7,8,9],[2,3,4,5,6,7,8,9,10],.range 12,.range 13,.range 14],.range 15⟩
  | _=>⟨.nil,[],[]⟩
theorem Qm (i:Nat):EA.acts i=[]:=rfl
theorem Qn (i:Nat):EA.views i=none:=rfl
attribute [go_sem] Qm Qn Tryz.ntmps212 Tryz.results212
@[go_sem] theorem Vi:(EA.draws 1).order=hi212_1:=rfl
@[go_sem] theorem Vj:(EA.draws 5).order=hi212_5:=rfl
def rp (c:Int)(b:List Int):(Int × (List Int))→St
 | (d,a)=>⟨[(2,.ptr 128 1 0 0),(3,.ptr 192 1 0 0),(14,.lit (.int .i64 c)),(15,.lit (.int .i64 d))],[(128,1,.var [.lit (.int .i64 0),.lit (.slice none 0 0),.lit (.slice none 0 0)]),(192,1,.var [.lit (.int .i64 0),.ref 100012289 1 0 a.length,.ref 640 1 0 b.length]),(100012289,1,.row true (ab eI a)),(640,1,.row true (ab eI b))],2⟩
attribute [go_sem] rp
attribute [go_sem] Tryz.ntmps94 Tryz.results94
@[go_sem] def hi137_3:DT:=.i2 0 (.i1 2 (.i2 4 (.i0 1 [2] (.i2 3 (.r2 5 3 .nil)))))
def IK:Hint where
 acts:=fun _=>[]
 draws:=fun
  | 3=>⟨hi137_3,[[],[0],[],[0,1,2],[],.range 5,.range 6,.range 7],.range 8⟩
  | _=>⟨.nil,[],[]⟩
theorem Qo (i:Nat):IK.acts i=[]:=rfl
theorem Qp (i:Nat):IK.views i=none:=rfl
attribute [go_sem] Qo Qp Tryz.ntmps137 Tryz.results137
@[go_sem] theorem Vk:(IK.draws 3).order=hi137_3:=rfl
def sE (d:Int)(e:List GNode)(f:List GTie)(g:Int)(b c a:List Int)(h:Int):St:=⟨[(2,.ptr 128 1 0 0),(3,.ptr 192 1 0 0),(27,.ref 896 1 0 a.length),(28,.lit (.int .i64 d)),(29,.lit (.int .i64 h))],[(128,1,.var [.sl (ab GNode.encS e),.sl (ab GTie.enc f),.lit (.int .i64 g)]),(192,1,.var [.sl (ab eI b),.sl (ab eI c)]),(896,1,.row true (ab eI a))],2⟩
attribute [go_sem] sE
def sF (a:List Int)(b:Int)(c:List GNode)(d:List GTie)(e f:Int):St:=⟨[(2,.ptr 128 1 0 0),(55,.sl (ab eI a)),(56,.lit (.int .i64 b)),(57,.lit (.int .i64 f))],[(128,1,.var [.sl (ab GNode.encS c),.sl (ab GTie.enc d),.lit (.int .i64 e)])],2⟩
attribute [go_sem] sF
@[go_sem] def hi118_9:DT:=.r2 0 19 .nil
def IL:Hint where
 acts:=fun _=>[]
 draws:=fun
  | 9=>⟨hi118_9,[[],[0],[],[0,1,2],[0,1,2,3],[],[5],[],[5,6,7],[5,6,7,8],[5,6,7,8,9],[],[11],[],[11,12,13],[11,12,13,14],[11,12,13,14,15],.range 17,.range 18],.range 19⟩
  | _=>⟨.nil,[],[]⟩
theorem Qq (i:Nat):IL.acts i=[]:=rfl
theorem Qr (i:Nat):IL.views i=none:=rfl
attribute [go_sem] Qq Qr Tryz.ntmps118 Tryz.results118
@[go_sem] theorem Vl:(IL.draws 9).order=hi118_9:=rfl
@[go_sem] def hi258_1:DT:=.i1 0 (.i1 1 (.i1 3 (.i1 4 (.i1 7 (.i1 8 (.fork (.i0 2 [0,1,3,4,7,8] (.fork (.i0 5 [0,1,7,8] (.i0 6 [0,1,3,4,7,8] (.i0 9 [0,1] (.i2 10 (.i2 11 .nil))))) (.i0 6 [0,1,3,4,7,8] (.i0 5 [0,1,7,8] (.i0 9 [0,1] (.i2 10 (.i2 11 .nil))))))) (.i0 6 [0,1,3,4,7,8] (.i0 2 [0,1,3,4,7,8] (.i0 5 [0,1,7,8] (.i0 9 [0,1] (.i2 10 (.i2 11 .nil))))))))))))
def EB:Hint where
 acts:=fun _=>[]
 draws:=fun
  | 1=>⟨hi258_1,[[],[0],[],[],[3],[2,3,4],[],[],[7],[2,3,4,5,6,7,8],.range 10,.range 11],.range 12⟩
  | _=>⟨.nil,[],[]⟩
theorem Qs (i:Nat):EB.acts i=[]:=rfl
theorem Qt (i:Nat):EB.views i=none:=rfl
attribute [go_sem] Qs Qt Tryz.ntmps258 Tryz.results258
@[go_sem] theorem Vm:(EB.draws 1).order=hi258_1:=rfl
instance k258 {v0:GState}:Ctr (jY v0) (fun (res:GState)=>aj Tryz.prog 258 [.agg (GState.encS v0)] [] (.agg [.lit (.int .i64 res.now),.ref 20000 1 0 res.times.length,.ref 20001 1 0 res.values.length]) [(20000,1,.row true (ab eI res.times)),(20001,1,.row true (ab eI res.values))]):=⟨by
 intro res h0
 refine aE (ra:=[.homeCell 128 1,.homeCell 128 2]) (md:=mdT) hT (hi:=EB) Tryz.func258 rfl rfl (by decide +kernel) (by simp) ?_
 unfold jY at h0
 try simp(config:=cS)only[go_sem, *]
 refine dR ?_ ?_
 ·try simp(config:=cS)only[go_sem, *]
  refine dR ?_ ?_
  ·exact run
  ·exact run
 ·exact run⟩
@[go_sem] def hi270_1:DT:=.i1 0 (.i1 1 (.i1 3 (.i1 4 (.i1 7 (.i1 8 (.i1 11 (.i1 12 (.fork (.i0 2 [0,1,3,4,7,8,11,12] (.fork (.i0 5 [0,1,7,8,11,12] (.fork (.i0 6 [0,1,3,4,7,8,11,12] (.fork (.i0 9 [0,1,11,12] (.i0 10 [0,1,3,4,7,8,11,12] (.i0 13 [0,1] (.i2 14 (.i2 15 .nil))))) (.i0 10 [0,1,3,4,7,8,11,12] (.i0 9 [0,1,11,12] (.i0 13 [0,1] (.i2 14 (.i2 15 .nil))))))) (.i0 10 [0,1,3,4,7,8,11,12] (.i0 6 [0,1,3,4,7,8,11,12] (.i0 9 [0,1,11,12] (.i0 13 [0,1] (.i2 14 (.i2 15 .nil)))))))) (.fork (.i0 6 [0,1,3,4,7,8,11,12] (.fork (.i0 5 [0,1,7,8,11,12] (.fork (.i0 9 [0,1,11,12] (.i0 10 [0,1,3,4,7,8,11,12] (.i0 13 [0,1] (.i2 14 (.i2 15 .nil))))) (.i0 10 [0,1,3,4,7,8,11,12] (.i0 9 [0,1,11,12] (.i0 13 [0,1] (.i2 14 (.i2 15 .nil))))))) (.i0 10 [0,1,3,4,7,8,11,12] (.i0 5 [0,1,7,8,11,12] (.i0 9 [0,1,11,12] (.i0 13 [0,1] (.i2 14 (.i2 15 .nil)))))))) (.i0 10 [0,1,3,4,7,8,11,12] (.fork (.i0 5 [0,1,7,8,11,12] (.i0 6 [0,1,3,4,7,8,11,12] (.i0 9 [0,1,11,12] (.i0 13 [0,1] (.i2 14 (.i2 15 .nil)))))) (.i0 6 [0,1,3,4,7,8,11,12] (.i0 5 [0,1,7,8,11,12] (.i0 9 [0,1,11,12] (.i0 13 [0,1] (.i2 14 (.i2 15 .nil))))))))))) (.fork (.i0 6 [0,1,3,4,7,8,11,12] (.fork (.i0 2 [0,1,3,4,7,8,11,12] (.fork (.i0 5 [0,1,7,8,11,12] (.fork (.i0 9 [0,1,11,12] (.i0 10 [0,1,3,4,7,8,11,12] (.i0 13 [0,1] (.i2 14 (.i2 15 .nil))))) (.i0 10 [0,1,3,4,7,8,11,12] (.i0 9 [0,1,11,12] (.i0 13 [0,1] (.i2 14 (.i2 15 .nil))))))) (.i0 10 [0,1,3,4,7,8,11,12] (.i0 5 [0,1,7,8,11,12] (.i0 9 [0,1,11,12] (.i0 13 [0,1] (.i2 14 (.i2 15 .nil)))))))) (.i0 10 [0,1,3,4,7,8,11,12] (.i0 2 [0,1,3,4,7,8,11,12] (.i0 5 [0,1,7,8,11,12] (.i0 9 [0,1,11,12] (.i0 13 [0,1] (.i2 14 (.i2 15 .nil))))))))) (.i0 10 [0,1,3,4,7,8,11,12] (.fork (.i0 2 [0,1,3,4,7,8,11,12] (.fork (.i0 5 [0,1,7,8,11,12] (.i0 6 [0,1,3,4,7,8,11,12] (.i0 9 [0,1,11,12] (.i0 13 [0,1] (.i2 14 (.i2 15 .nil)))))) (.i0 6 [0,1,3,4,7,8,11,12] (.i0 5 [0,1,7,8,11,12] (.i0 9 [0,1,11,12] (.i0 13 [0,1] (.i2 14 (.i2 15 .nil)))))))) (.i0 6 [0,1,3,4,7,8,11,12] (.i0 2 [0,1,3,4,7,8,11,12] (.i0 5 [0,1,7,8,11,12] (.i0 9 [0,1,11,12] (.i0 13 [0,1] (.i2 14 (.i2 15 .nil))))))))))))))))))
def IM:Hint where
 acts:=fun _=>[]
 draws:=fun
  | 1=>⟨hi270_1,[[],[0],[],[],[3],[2,3,4],[],[],[7],[2,3,4,5,6,7,8],[],[],[11],[2,3,4,5,6,7,8,9,10,11,12],.range 14,.range 15],.range 16⟩
  | _=>⟨.nil,[],[]⟩
theorem Qu (i:Nat):IM.acts i=[]:=rfl
theorem Qv (i:Nat):IM.views i=none:=rfl
attribute [go_sem] Qu Qv Tryz.ntmps270 Tryz.results270
@[go_sem] theorem Vn:(IM.draws 1).order=hi270_1:=rfl
def tC (i:List an)(j f g:Int)(h:Bool)(b:List GNode)(c:List GTie)(d e:List Int):(Int × (List an))→St
 | (k,a)=>⟨[(2,.ptr 128 1 0 0),(3,.ptr 192 1 0 0),(16,.sl (ab an.encS i)),(17,.lit (.int .i64 j)),(18,.lit (.int .i64 k))],[(128,1,.var [.lit (.slice none 0 0),.lit (.slice none 0 0),.lit (.int .i64 0),.lit (.int .i64 0),.lit (.slice none 0 0),.lit (.slice none 0 0),.lit (.bool false),.lit (.slice none 0 0)]),(192,1,.var [.ref 512 1 0 b.length,.ref 513 1 0 c.length,.lit (.int .i64 f),.lit (.int .i64 g),.ref 704 1 0 d.length,.ref 705 1 0 e.length,.lit (.bool h),.ref 100012295 1 0 a.length]),(512,1,.row true (ab GNode.encO b)),(513,1,.row true (ab GTie.enc c)),(704,1,.row true (ab eI d)),(705,1,.row true (ab eI e)),(100012295,1,.row true (ab an.encO a))],2⟩
attribute [go_sem] tC
@[go_sem] def hi213_5:DT:=.i1 0 (.i1 1 (.i2 2 (.i0 3 [0,1] (.i0 4 [0,1] (.r2 5 3 .nil)))))
@[go_sem] def hi213_1:DT:=.i1 0 (.i1 1 (.i1 3 (.i1 4 (.i1 6 (.i1 7 (.fork (.i0 2 [3,4,6,7] (.fork (.i0 5 [6,7] (.i2 8 (.i0 9 [0,1,3,4,6,7] (.i2 10 .nil)))) (.i0 9 [0,1,3,4,6,7] (.i0 5 [6,7] (.i2 8 (.i2 10 .nil)))))) (.i0 9 [0,1,3,4,6,7] (.i0 2 [3,4,6,7] (.i0 5 [6,7] (.i2 8 (.i2 10 .nil)))))))))))
def EC:Hint where
 acts:=fun _=>[]
 draws:=fun
  | 1=>⟨hi213_1,[[],[0],[0,1],[],[3],.range 5,[],[6],.range 8,[],.range 10],.range 11⟩
  | 5=>⟨hi213_5,[[],[0],[],[2],[2,3],.range 5,.range 6,.range 7],.range 8⟩
  | _=>⟨.nil,[],[]⟩
theorem Qw (i:Nat):EC.acts i=[]:=rfl
theorem Qy (i:Nat):EC.views i=none:=rfl
attribute [go_sem] Qw Qy Tryz.ntmps213 Tryz.results213
@[go_sem] theorem Vo:(EC.draws 1).order=hi213_1:=rfl
@[go_sem] theorem Vp:(EC.draws 5).order=hi213_5:=rfl
def sG (v:List Int)(a b:Int):St:=⟨[(0,.sl (ab eI v)),(5,.sl (ab eI v)),(6,.lit (.int .i64 a)),(7,.lit (.int .i64 b))],[],2⟩
attribute [go_sem] sG
attribute [go_sem] Tryz.ntmps273 Tryz.results273
def tD (a:List Int)(d:Int)(e:List GNode)(f:List GTie)(g b:Int)(c:List Int)(h:Int):St:=⟨[(2,.ptr 128 1 0 0),(3,.ptr 192 1 0 0),(44,.sl (ab eI a)),(45,.lit (.int .i64 d)),(46,.lit (.int .i64 h))],[(128,1,.var [.sl (ab GNode.encS e),.sl (ab GTie.enc f),.lit (.int .i64 g)]),(192,1,.var [.lit (.int .i64 b),.sl (ab eI a),.sl (ab eI c)])],2⟩
attribute [go_sem] tD
def tE (d:List GNode)(e:List GTie)(f a:Int)(b c:List Int)(p:Int):St:=⟨[(2,.ptr 128 1 0 0),(3,.ptr 192 1 0 0),(7,.lit (.int .i64 p))],[(128,1,.var [.sl (ab GNode.encS d),.sl (ab GTie.enc e),.lit (.int .i64 f)]),(192,1,.var [.lit (.int .i64 a),.sl (ab eI b),.sl (ab eI c)])],2⟩
attribute [go_sem] tE
@[go_sem] def hi216_13:DT:=.r2 0 18 .nil
def IP:Hint where
 acts:=fun _=>[]
 draws:=fun
  | 13=>⟨hi216_13,[[],[0],[],[2],[0,1,2,3],.range 5,.range 6,[],[7],[7,8],[7,8,9],[7,8,9,10],[7,8,9],[7,8,9,10,11,12],[7,8,9,10,11,12,13],[7,8,9,10,11,12,13,14],[7,8,9,10,11,12,13,14,15],.range 17],.range 18⟩
  | _=>⟨.nil,[],[]⟩
theorem Qz (i:Nat):IP.acts i=[]:=rfl
theorem QA (i:Nat):IP.views i=none:=rfl
attribute [go_sem] Qz QA Tryz.ntmps216 Tryz.results216
@[go_sem] theorem Uk:(IP.draws 13).order=hi216_13:=rfl
def rR (e:List GTie)(f b:Int)(c d:List Int):(Int × (List Int))→St
 | (g,a)=>⟨[(3,.ptr 192 1 0 0),(5,.ref 512 1 0 a.length),(10,.sl (ab GTie.enc e)),(11,.lit (.int .i64 f)),(12,.lit (.int .i64 g))],[(192,1,.var [.lit (.int .i64 b),.sl (ab eI c),.sl (ab eI d)]),(512,1,.row true (ab eI a))],2⟩
attribute [go_sem] rR
attribute [go_sem] Tryz.ntmps255 Tryz.results255
def rq (g:Int)(h:List GNode)(i:List GTie)(j d:Int)(e f b:List Int):(Int × (List Int) × (List Int))→St
 | (k,a,c)=>⟨[(2,.ptr 128 1 0 0),(3,.ptr 192 1 0 0),(6,.ref 704 1 0 a.length),(7,.ref 768 1 0 c.length),(15,.ref 960 1 0 b.length),(16,.lit (.int .i64 g)),(17,.lit (.int .i64 k))],[(128,1,.var [.sl (ab GNode.encS h),.sl (ab GTie.enc i),.lit (.int .i64 j)]),(192,1,.var [.lit (.int .i64 d),.sl (ab eI e),.sl (ab eI f)]),(704,1,.row true (ab eI a)),(768,1,.row true (ab eI c)),(960,1,.row true (ab eI b))],2⟩
attribute [go_sem] rq
@[go_sem] def hi183_6:DT:=.r2 0 14 .nil
def IQ:Hint where
 acts:=fun _=>[]
 draws:=fun
  | 6=>⟨hi183_6,[[],[0],[],[2],[],[4],[],[4,5,6],[4,5,6,7],[4,5,6,7,8],[2,3,4,5,6,7,8,9],[2,3,4,5,6,7,8,9,10],.range 12,.range 13],.range 14⟩
  | _=>⟨.nil,[],[]⟩
theorem QB (i:Nat):IQ.acts i=[]:=rfl
theorem QC (i:Nat):IQ.views i=none:=rfl
attribute [go_sem] QB QC Tryz.ntmps183 Tryz.results183
@[go_sem] theorem Vq:(IQ.draws 6).order=hi183_6:=rfl
def tF (n:Int)(d:List Int)(b:Int):(Int × (List Int))→St
 | (c,a)=>⟨[(1,.lit (.int .i64 n)),(5,.ref 512 1 0 a.length),(9,.sl (ab eI d)),(10,.lit (.int .i64 b)),(11,.lit (.int .i64 c))],[(512,1,.row true (ab eI a))],2⟩
attribute [go_sem] tF
attribute [go_sem] Tryz.ntmps187 Tryz.results187
def ng (a b:List Int):(Int × Int × (List Int))→St
 | (i,k,c)=>⟨[(0,.sl (ab eI a)),(1,.sl (ab eI b)),(5,.ref 512 1 0 c.length),(6,.lit (.int .i64 i)),(7,.lit (.int .i64 k))],[(512,1,.row true (ab eI c))],2⟩
attribute [go_sem] ng
@[go_sem] def hi186_5:DT:=.r2 0 21 .nil
def ED:Hint where
 acts:=fun _=>[]
 draws:=fun
  | 5=>⟨hi186_5,[[],[],[1],[0,1,2],[0,1,2,3],.range 5,.range 5,[0,1,2,3,4,6],.range 8,.range 9,.range 10,.range 10,.range 12,.range 13,.range 10,.range 10,[0,1,2,3,4,5,6,7,8,9,14,15],[0,1,2,3,4,5,6,7,8,9,14,15,16],.range 18,.range 19,.range 20],.range 21⟩
  | _=>⟨.nil,[],[]⟩
theorem QD (i:Nat):ED.acts i=[]:=rfl
theorem QE (i:Nat):ED.views i=none:=rfl
attribute [go_sem] QD QE Tryz.ntmps186 Tryz.results186
@[go_sem] theorem Vr:(ED.draws 5).order=hi186_5:=rfl
instance k186 {a:List Int} {b:List Int}:Ctr (jm a b) (fun (res:List Int)=>aj Tryz.prog 186 [.sl (ab eI a),.sl (ab eI b)] [] (.ref 20000 1 0 res.length) [(20000,1,.row true (ab eI res))]):=⟨by
 intro res h0
 refine aE (ra:=[.home 4]) (md:=mdT) hT (hi:=ED) Tryz.func186 rfl rfl (by decide +kernel) (by simp) ?_
 unfold jm at h0
 obtain ⟨q06,l0,h0⟩:=af h0
 simp(config:=cS)only[go_sem, *]
 refine ak (m1:=.mk) (m2:=.mk) [.nf [0,1,5,6,7] [512]] (ng a b) l0 ?_ ?_
 ·simp(config:=cS)only[go_sem, *]
 ·have k0:=h0
  clear h0 l0
  intro _ s0 _ h0 gb0
  obtain ⟨i_1,k_1,out_1⟩:=s0
  unfold gv at h0
  try dsimp only at h0
  exact run⟩
def rS (a b:List Int):(Int × (List (List Int)))→St
 | (n,c)=>⟨[(5,.ref 1472 1 0 a.length),(6,.ref 1473 1 0 b.length),(7,.ref 1664 1 0 c.length),(8,.lit (.int .i64 n))],[(1472,1,.row true (ab eI a)),(1473,1,.row true (ab eI b)),(1664,1,.row true (ab (eLO eI) c))],2⟩
attribute [go_sem] rS
attribute [go_sem] Tryz.ntmps149 Tryz.results149
def vh (a:List Int)(b:List (List Int))(c d:Int):St:=⟨[(1,.sl (ab eI a)),(7,.sl (ab (eLS eI) b)),(8,.lit (.int .i64 c)),(9,.lit (.int .i64 d))],[],2⟩
attribute [go_sem] vh
attribute [go_sem] Tryz.ntmps299 Tryz.results299
def ut (g:List Int)(h:Int)(i:List GNode)(j:List GTie)(k d:Int)(e f:List Int)(c:Int)(a:List Int):(Int × (List Int))→St
 | (l,b)=>⟨[(3,.ptr 192 1 0 0),(4,.ptr 256 1 0 0),(6,.ptr 384 1 0 0),(7,.ptr 448 1 0 0),(12,.sl (ab eI g)),(13,.lit (.int .i64 h)),(14,.lit (.int .i64 l))],[(192,1,.var [.sl (ab GNode.encS i),.sl (ab GTie.enc j),.lit (.int .i64 k)]),(256,1,.var [.lit (.int .i64 d),.sl (ab eI e),.sl (ab eI f)]),(384,1,.var [.lit (.int .i64 0),.lit (.slice none 0 0),.lit (.slice none 0 0)]),(448,1,.var [.lit (.int .i64 c),.ref 704 1 0 b.length,.ref 705 1 0 a.length]),(704,1,.row true (ab eI b)),(705,1,.row true (ab eI a))],2⟩
attribute [go_sem] ut
@[go_sem] def hi185_5:DT:=.r2 0 12 .nil
def IR:Hint where
 acts:=fun _=>[]
 draws:=fun
  | 5=>⟨hi185_5,[[],[0],[],[2],[],[2,3,4],[2,3,4,5],[2,3,4,5,6],[],[8],.range 10,.range 11],.range 12⟩
  | _=>⟨.nil,[],[]⟩
theorem QF (i:Nat):IR.acts i=[]:=rfl
theorem QG (i:Nat):IR.views i=none:=rfl
attribute [go_sem] QF QG Tryz.ntmps185 Tryz.results185
@[go_sem] theorem Vs:(IR.draws 5).order=hi185_5:=rfl
attribute [go_sem] Tryz.ntmps278 Tryz.results278
attribute [go_sem] Tryz.ntmps300 Tryz.results300
def ni (v d:List Int)(a:Int):(Int × Int)→St
 | (b,c)=>⟨[(1,.sl (ab eI v)),(5,.lit (.int .i64 b)),(9,.sl (ab eI d)),(10,.lit (.int .i64 a)),(11,.lit (.int .i64 c))],[],2⟩
attribute [go_sem] ni
attribute [go_sem] Tryz.ntmps119 Tryz.results119
instance k119 {l:List Int} {v:List Int}:Ctr (je l v) (fun (res:Int)=>aj Tryz.prog 119 [.sl (ab eI l),.sl (ab eI v)] [] (.lit (.int .i64 res)) []):=⟨by
 intro res h0
 refine co (hi:=hi00) Tryz.func119 rfl rfl ?_
 unfold je at h0
 obtain ⟨q04,l0,h0⟩:=af h0
 simp(config:=cS)only[go_sem, *]
 refine ak (m1:=.mk) (m2:=.mk) [.nf [1,5,9,10,11] []] (ni v l ((l.length:Nat):Int)) l0 ?_ ?_
 ·simp(config:=cS)only[go_sem, *]
 ·have k0:=h0
  clear h0 l0
  intro _ s0 _ h0 gb0
  obtain ⟨out_1,v11_1⟩:=s0
  unfold gn at h0
  try dsimp only at h0
  exact run⟩
def rr (a:List GNode)(f:Int)(g:List GTie)(h c:Int)(d e:List Int):(Int × (List Int))→St
 | (i,b)=>⟨[(2,.ptr 128 1 0 0),(3,.ptr 192 1 0 0),(5,.ref 512 1 0 b.length),(10,.sl (ab GNode.encS a)),(11,.lit (.int .i64 f)),(12,.lit (.int .i64 i))],[(128,1,.var [.sl (ab GNode.encS a),.sl (ab GTie.enc g),.lit (.int .i64 h)]),(192,1,.var [.lit (.int .i64 c),.sl (ab eI d),.sl (ab eI e)]),(512,1,.row true (ab eI b))],2⟩
attribute [go_sem] rr
attribute [go_sem] Tryz.ntmps256 Tryz.results256
def qN (l:List Int):(Int × (List (List Int)))→St
 | (n,a)=>⟨[(5,.ref 896 1 0 l.length),(6,.ref 960 1 0 a.length),(7,.lit (.int .i64 n))],[(896,1,.row true (ab eI l)),(960,1,.row true (ab (eLO eI) a))],2⟩
attribute [go_sem] qN
attribute [go_sem] Tryz.ntmps279 Tryz.results279
def rU (a:List Int)(h:Int)(i:List GNode)(j:List GTie)(k e:Int)(f g:List Int)(d:Int)(b:List Int):(Int × (List Int))→St
 | (l,c)=>⟨[(2,.sl (ab eI a)),(3,.ptr 192 1 0 0),(4,.ptr 256 1 0 0),(6,.ptr 384 1 0 0),(8,.ptr 512 1 0 0),(15,.sl (ab eI a)),(16,.lit (.int .i64 h)),(17,.lit (.int .i64 l))],[(192,1,.var [.sl (ab GNode.encS i),.sl (ab GTie.enc j),.lit (.int .i64 k)]),(256,1,.var [.lit (.int .i64 e),.sl (ab eI f),.sl (ab eI g)]),(384,1,.var [.lit (.int .i64 0),.lit (.slice none 0 0),.lit (.slice none 0 0)]),(512,1,.var [.lit (.int .i64 d),.ref 896 1 0 c.length,.ref 897 1 0 b.length]),(896,1,.row true (ab eI c)),(897,1,.row true (ab eI b))],2⟩
attribute [go_sem] rU
def rV (d:List Int)(f:List GNode)(g:List GTie)(h e:Int)(b c:List Int):(Int × (List Int))→St
 | (p,a)=>⟨[(2,.sl (ab eI d)),(3,.ptr 192 1 0 0),(6,.ptr 384 1 0 0),(8,.ptr 512 1 0 0),(11,.ref 1792 1 0 a.length),(12,.lit (.int .i64 p))],[(192,1,.var [.sl (ab GNode.encS f),.sl (ab GTie.enc g),.lit (.int .i64 h)]),(384,1,.var [.lit (.int .i64 0),.lit (.slice none 0 0),.lit (.slice none 0 0)]),(512,1,.var [.lit (.int .i64 e),.ref 896 1 0 b.length,.ref 897 1 0 c.length]),(896,1,.row true (ab eI b)),(897,1,.row true (ab eI c)),(1792,1,.row true (ab eI a))],2⟩
attribute [go_sem] rV
attribute [go_sem] Tryz.ntmps280 Tryz.results280
attribute [go_sem] Tryz.ntmps325 Tryz.results325
def mu (a e:List Int)(f d:Int)(b:List Int):(Int × (List Int))→St
 | (g,c)=>⟨[(2,.sl (ab eI a)),(6,.ptr 384 1 0 0),(7,.ptr 448 1 0 0),(12,.sl (ab eI e)),(13,.lit (.int .i64 f)),(14,.lit (.int .i64 g))],[(384,1,.var [.lit (.int .i64 0),.lit (.slice none 0 0),.lit (.slice none 0 0)]),(448,1,.var [.lit (.int .i64 d),.ref 704 1 0 b.length,.ref 705 1 0 c.length]),(704,1,.row true (ab eI b)),(705,1,.row true (ab eI c))],2⟩
attribute [go_sem] mu
@[go_sem] def hi281_5:DT:=.r2 0 10 .nil
def EE:Hint where
 acts:=fun _=>[]
 draws:=fun
  | 5=>⟨hi281_5,[[],[0],[],[2],[],[],[4,5],[4,5,6],.range 8,.range 9],.range 10⟩
  | _=>⟨.nil,[],[]⟩
theorem QH (i:Nat):EE.acts i=[]:=rfl
theorem QI (i:Nat):EE.views i=none:=rfl
attribute [go_sem] QH QI Tryz.ntmps281 Tryz.results281
@[go_sem] theorem Vt:(EE.draws 5).order=hi281_5:=rfl
instance k281 {v0:GState} {props:List Int} {values:List Int}:Ctr (kC v0 props values) (fun (res:GState)=>aj Tryz.prog 281 [.agg (GState.encS v0),.sl (ab eI props),.sl (ab eI values)] [] (.agg [.lit (.int .i64 res.now),.ref 20000 1 0 res.times.length,.ref 20001 1 0 res.values.length]) [(20000,1,.row true (ab eI res.times)),(20001,1,.row true (ab eI res.values))]):=⟨by
 intro res h0
 refine aE (ra:=[.homeCell 384 1,.homeCell 384 2]) (md:=mdT) hT (hi:=EE) Tryz.func281 rfl rfl (by decide +kernel) (by simp) ?_
 unfold kC at h0
 obtain ⟨r01,g0,h0⟩:=af h0
 simp(config:=cS)only[go_sem, *]
 have g0:=ctr g0
 refine ah g0 ?_
 obtain ⟨q05,l0,h0⟩:=af h0
 simp(config:=cS)only[go_sem, *]
 refine ak (m1:=.mk) (m2:=.mk) [.nf [2,6,7,12,13,14] [384,448,704,705]] (mu values props ((props.length:Nat):Int) r01.now r01.times) l0 ?_ ?_
 ·simp(config:=cS)only[go_sem, *]
 ·have k0:=h0
  clear h0 l0
  intro _ s0 _ h0 gb0
  obtain ⟨v14_1,h705_1⟩:=s0
  unfold fB at h0
  try dsimp only at h0
  exact run⟩
def sH (e f:Int)(g h i:List Int)(j:Int)(b c d:List Int):(Int × (List Int))→St
 | (k,a)=>⟨[(5,.ptr 320 1 0 0),(6,.ptr 384 1 0 0),(10,.ptr 640 1 0 0),(11,.ref 2946 1 0 d.length),(13,.ref 3904 1 0 a.length),(62,.ref 2946 1 0 d.length),(63,.lit (.int .i64 e)),(64,.lit (.int .i64 k))],[(320,1,.var [.lit (.int .i64 f),.sl (ab eI g),.sl (ab eI h),.sl (ab eI i)]),(384,1,.var [.lit (.int .i64 0),.lit (.slice none 0 0),.lit (.slice none 0 0)]),(640,1,.var [.lit (.int .i64 j),.ref 2944 1 0 b.length,.ref 2945 1 0 c.length]),(2944,1,.row true (ab eI b)),(2945,1,.row true (ab eI c)),(2946,1,.row true (ab eI d)),(3904,1,.row true (ab eI a))],2⟩
attribute [go_sem] sH
attribute [go_sem] Tryz.ntmps298 Tryz.results298
def rW (d:List an)(e:Int)(f:List GNode)(g:List GTie)(h:Int):(Int × Int × (List Int) × (List Int))→St
 | (i,c,a,b)=>⟨[(2,.ptr 128 1 0 0),(4,.ptr 256 1 0 0),(6,.ptr 384 1 0 0),(13,.sl (ab an.encS d)),(14,.lit (.int .i64 e)),(15,.lit (.int .i64 i))],[(128,1,.var [.sl (ab GNode.encS f),.sl (ab GTie.enc g),.lit (.int .i64 h)]),(256,1,.var [.lit (.int .i64 0),.lit (.slice none 0 0),.lit (.slice none 0 0)]),(384,1,.var [.lit (.int .i64 c),.ref 768 1 0 a.length,.ref 769 1 0 b.length]),(768,1,.row true (ab eI a)),(769,1,.row true (ab eI b))],2⟩
attribute [go_sem] rW
@[go_sem] def hi271_10:DT:=.i1 0 (.i2 1 (.i0 2 [0] (.i2 3 (.i2 4 .nil))))
def IS:Hint where
 acts:=fun _=>[]
 draws:=fun
  | 10=>⟨hi271_10,[[],[],[1],[0,1,2],[0,1,2,3]],.range 5⟩
  | _=>⟨.nil,[],[]⟩
theorem QJ (i:Nat):IS.acts i=[]:=rfl
theorem QK (i:Nat):IS.views i=none:=rfl
attribute [go_sem] QJ QK Tryz.ntmps271 Tryz.results271
@[go_sem] theorem Ul:(IS.draws 10).order=hi271_10:=rfl
attribute [go_sem] Tryz.ntmps272 Tryz.results272
attribute [go_sem] Tryz.ntmps214 Tryz.results214
def rX (d e:Int)(b c a:List Int)(f:Int):St:=⟨[(2,.lit (.int .i64 d)),(4,.ptr 256 1 0 0),(10,.ref 640 1 0 a.length),(11,.lit (.int .i64 e)),(12,.lit (.int .i64 f))],[(256,1,.var [.sl (ab eI b),.sl (ab eI c)]),(640,1,.row true (ab eI a))],2⟩
attribute [go_sem] rX
attribute [go_sem] Tryz.ntmps120 Tryz.results120
def rY (h:Int)(i:List GNode)(j:List GTie)(k c:Int)(d e f g a:List Int):(Int × (List Int))→St
 | (l,b)=>⟨[(3,.ptr 192 1 0 0),(4,.ptr 256 1 0 0),(5,.ptr 320 1 0 0),(7,.ref 640 1 0 b.length),(13,.ref 832 1 0 a.length),(14,.lit (.int .i64 h)),(15,.lit (.int .i64 l))],[(192,1,.var [.sl (ab GNode.encS i),.sl (ab GTie.enc j),.lit (.int .i64 k)]),(256,1,.var [.lit (.int .i64 c),.sl (ab eI d),.sl (ab eI e)]),(320,1,.var [.sl (ab eI f),.sl (ab eI g)]),(640,1,.row true (ab eI b)),(832,1,.row true (ab eI a))],2⟩
attribute [go_sem] rY
@[go_sem] def hi215_5:DT:=.i1 0 (.i1 1 (.i1 2 (.i1 3 (.i1 4 (.i1 5 (.i2 6 (.i1 7 (.i1 8 (.i1 9 (.i1 10 (.i1 11 (.r2 12 4 (.i0 16 [0,1,2,3,4,5,7,8,9,10,11] (.i2 17 .nil))))))))))))))
def IT:Hint where
 acts:=fun _=>[]
 draws:=fun
  | 5=>⟨hi215_5,[[],[0],[],[2],[],[4],[],[4,5,6],[4,5,6,7],[4,5,6,7,8],[2,3,4,5,6,7,8,9],[2,3,4,5,6,7,8,9,10],.range 12,[],[],[],[13,14,15],.range 17],.range 18⟩
  | _=>⟨.nil,[],[]⟩
theorem QL (i:Nat):IT.acts i=[]:=rfl
theorem QM (i:Nat):IT.views i=none:=rfl
attribute [go_sem] QL QM Tryz.ntmps215 Tryz.results215
@[go_sem] theorem Vu:(IT.draws 5).order=hi215_5:=rfl
@[go_sem] def hi253_10:DT:=.r2 0 21 .nil
@[go_sem] def hi253_8:DT:=.r2 0 21 .nil
def EF:Hint where
 acts:=fun _=>[]
 draws:=fun
  | 8=>⟨hi253_8,[[],[0],[],[2],[0,1,2,3],.range 5,.range 6,[],[7],.range 9,.range 10,.range 11,.range 12,.range 13,.range 12,.range 15,.range 12,[0,1,2,3,4,5,6,7,8,9,10,11,16],.range 18,.range 19,.range 20],.range 21⟩
  | 10=>⟨hi253_10,[[],[0],[],[2],[0,1,2,3],.range 5,.range 6,[],[7],.range 9,.range 10,.range 11,.range 12,.range 12,[0,1,2,3,4,5,6,7,8,9,10,11,13],.range 15,.range 12,[0,1,2,3,4,5,6,7,8,9,10,11,16],.range 18,.range 19,.range 20],.range 21⟩
  | _=>⟨.nil,[],[]⟩
theorem QN (i:Nat):EF.acts i=[]:=rfl
theorem QO (i:Nat):EF.views i=none:=rfl
attribute [go_sem] QN QO Tryz.ntmps253 Tryz.results253
@[go_sem] theorem Vv:(EF.draws 8).order=hi253_8:=rfl
@[go_sem] theorem Um:(EF.draws 10).order=hi253_10:=rfl
def rZ (a:List GTie)(e:Int)(f:List GNode)(g b:Int)(c d:List Int)(h:Int):St:=⟨[(2,.ptr 128 1 0 0),(3,.ptr 192 1 0 0),(10,.sl (ab GTie.enc a)),(11,.lit (.int .i64 e)),(12,.lit (.int .i64 h))],[(128,1,.var [.sl (ab GNode.encS f),.sl (ab GTie.enc a),.lit (.int .i64 g)]),(192,1,.var [.lit (.int .i64 b),.sl (ab eI c),.sl (ab eI d)])],2⟩
attribute [go_sem] rZ
def sa (a:List GNode)(e:Int)(f:List GTie)(g b:Int)(c d:List Int)(h:Int):St:=⟨[(2,.ptr 128 1 0 0),(3,.ptr 192 1 0 0),(22,.sl (ab GNode.encS a)),(23,.lit (.int .i64 e)),(24,.lit (.int .i64 h))],[(128,1,.var [.sl (ab GNode.encS a),.sl (ab GTie.enc f),.lit (.int .i64 g)]),(192,1,.var [.lit (.int .i64 b),.sl (ab eI c),.sl (ab eI d)])],2⟩
attribute [go_sem] sa
attribute [go_sem] Tryz.ntmps180 Tryz.results180
def tG (e:List GNode)(f a:Int)(b c:List Int)(d:Int):St:=⟨[(3,.ptr 192 1 0 0),(8,.sl (ab GNode.encS e)),(9,.lit (.int .i64 f)),(10,.lit (.int .i64 d))],[(192,1,.var [.lit (.int .i64 a),.sl (ab eI b),.sl (ab eI c)])],2⟩
attribute [go_sem] tG
attribute [go_sem] Tryz.ntmps181 Tryz.results181
def sI (a b:List Int)(c:Int)(d:List GNode)(e:List GTie)(f g:Int)(h i:List Int)(j:Bool)(k:List an)(l:Int):St:=⟨[(1,.sl (ab eI a)),(3,.ptr 192 1 0 0),(6,.ptr 384 1 0 0),(21,.sl (ab eI b)),(22,.lit (.int .i64 c)),(23,.lit (.int .i64 l))],[(192,1,.var [.sl (ab GNode.encS d),.sl (ab GTie.enc e),.lit (.int .i64 f),.lit (.int .i64 g),.sl (ab eI h),.sl (ab eI i),.lit (.bool j),.sl (ab an.encS k)]),(384,1,.var [.lit (.int .i64 0),.lit (.slice none 0 0),.lit (.slice none 0 0)])],2⟩
attribute [go_sem] sI
attribute [go_sem] Tryz.ntmps232 Tryz.results232
def sb (c:List GNode)(h:Int)(i:List GTie)(j e:Int)(f g:List Int):(Int × (List Int) × (List Int) × (List Bool))→St
 | (k,d,a,b)=>⟨[(2,.ptr 128 1 0 0),(3,.ptr 192 1 0 0),(7,.ref 832 1 0 d.length),(8,.ref 896 1 0 a.length),(9,.ref 960 1 0 b.length),(17,.sl (ab GNode.encS c)),(18,.lit (.int .i64 h)),(19,.lit (.int .i64 k))],[(128,1,.var [.sl (ab GNode.encS c),.sl (ab GTie.enc i),.lit (.int .i64 j)]),(192,1,.var [.lit (.int .i64 e),.sl (ab eI f),.sl (ab eI g)]),(832,1,.row true (ab eI d)),(896,1,.row true (ab eI a)),(960,1,.row true (ab eB b))],2⟩
attribute [go_sem] sb
attribute [go_sem] Tryz.ntmps254 Tryz.results254
def qO (c:Int)(d:List GTie)(f:Int)(g:List GNode)(h:Int)(a:List Bool):(Int × (List Int) × (List Int))→St
 | (i,e,b)=>⟨[(2,.ptr 128 1 0 0),(5,.ref 960 1 0 e.length),(6,.ref 961 1 0 b.length),(7,.ref 962 1 0 a.length),(8,.lit (.int .i64 c)),(27,.sl (ab GTie.enc d)),(28,.lit (.int .i64 f)),(29,.lit (.int .i64 i))],[(128,1,.var [.sl (ab GNode.encS g),.sl (ab GTie.enc d),.lit (.int .i64 h)]),(960,1,.row true (ab eI e)),(961,1,.row true (ab eI b)),(962,1,.row true (ab eB a))],2⟩
attribute [go_sem] qO
def qP (e:List GNode)(f:List GTie)(g:Int)(a:List Bool):(Int × (List Int) × (List Int))→St
 | (c,d,b)=>⟨[(2,.ptr 128 1 0 0),(5,.ref 960 1 0 d.length),(6,.ref 961 1 0 b.length),(7,.ref 962 1 0 a.length),(8,.lit (.int .i64 c))],[(128,1,.var [.sl (ab GNode.encS e),.sl (ab GTie.enc f),.lit (.int .i64 g)]),(960,1,.row true (ab eI d)),(961,1,.row true (ab eI b)),(962,1,.row true (ab eB a))],2⟩
attribute [go_sem] qP
def qQ (d:Int)(c a:List Int)(b:List Bool)(e:Int):St:=⟨[(5,.ref 960 1 0 c.length),(6,.ref 961 1 0 a.length),(7,.ref 962 1 0 b.length),(121,.lit (.int .i64 d)),(122,.lit (.int .i64 e))],[(960,1,.row true (ab eI c)),(961,1,.row true (ab eI a)),(962,1,.row true (ab eB b))],2⟩
attribute [go_sem] qQ
@[go_sem] def hi182_17:DT:=.r2 0 15 .nil
@[go_sem] def hi182_12:DT:=.r2 0 19 .nil
@[go_sem] def hi182_11:DT:=.r2 0 19 .nil
@[go_sem] def hi182_10:DT:=.r2 0 19 .nil
@[go_sem] def hi182_9:DT:=.r2 0 19 .nil
def tH:Hint where
 acts:=fun _=>[]
 draws:=fun
  | 9=>⟨hi182_9,[[],[],[1],[],[],[4],[3,4,5],[3,4,5,6],[],[],[9],[8,9,10],[8,9,10,11],[],[13],[8,9,10,11,12,13,14],[3,4,5,6,7,8,9,10,11,12,13,14,15],.range 17,.range 18],.range 19⟩
  | 10=>⟨hi182_10,[[],[],[1],[],[],[4],[3,4,5],[3,4,5,6],[],[],[9],[8,9,10],[8,9,10,11],[],[13],[8,9,10,11,12,13,14],[3,4,5,6,7,8,9,10,11,12,13,14,15],.range 17,.range 18],.range 19⟩
  | 11=>⟨hi182_11,[[],[],[1],[],[],[4],[3,4,5],[3,4,5,6],[],[],[9],[8,9,10],[8,9,10,11],[],[13],[8,9,10,11,12,13,14],[3,4,5,6,7,8,9,10,11,12,13,14,15],.range 17,.range 18],.range 19⟩
  | 12=>⟨hi182_12,[[],[],[1],[],[],[4],[3,4,5],[3,4,5,6],[],[],[9],[8,9,10],[8,9,10,11],[],[13],[8,9,10,11,12,13,14],[3,4,5,6,7,8,9,10,11,12,13,14,15],.range 17,.range 18],.range 19⟩
  | 17=>⟨hi182_17,[[],[],[0,1],[0,1,2],[0,1,2,3],.range 5,.range 5,.range 7,.range 8,.range 5,.range 5,[0,1,2,3,4,9,10],[0,1,2,3,4,9,10,11],.range 13,.range 14],.range 15⟩
  | _=>⟨.nil,[],[]⟩
theorem QP (i:Nat):tH.acts i=[]:=rfl
theorem QQ (i:Nat):tH.views i=none:=rfl
attribute [go_sem] QP QQ Tryz.ntmps182 Tryz.results182
@[go_sem] theorem Vw:(tH.draws 9).order=hi182_9:=rfl
@[go_sem] theorem Un:(tH.draws 10).order=hi182_10:=rfl
@[go_sem] theorem Uo:(tH.draws 11).order=hi182_11:=rfl
@[go_sem] theorem Up:(tH.draws 12).order=hi182_12:=rfl
@[go_sem] theorem Uq:(tH.draws 17).order=hi182_17:=rfl
def pF (a:List Int)(b c:Int):St:=⟨[(0,.sl (ab eI a)),(9,.sl (ab eI a)),(10,.lit (.int .i64 b)),(11,.lit (.int .i64 c))],[],2⟩
attribute [go_sem] pF
def pG (a:List Int)(n c:Int)(b:List (List Int)):(Int × (List Int))→St
 | (d,l)=>⟨[(0,.sl (ab eI a)),(5,.ref 2112 1 0 b.length),(6,.lit (.int .i64 n)),(7,.ref 2688 1 0 l.length),(44,.lit (.int .i64 c)),(45,.lit (.int .i64 d))],[(2112,1,.row true (ab (eLO eI) b)),(2688,1,.row true (ab eI l))],2⟩
attribute [go_sem] pG
def pH (a:List Int):(Int × (List (List Int)))→St
 | (n,b)=>⟨[(0,.sl (ab eI a)),(5,.ref 2112 1 0 b.length),(6,.lit (.int .i64 n))],[(2112,1,.row true (ab (eLO eI) b))],2⟩
attribute [go_sem] pH
attribute [go_sem] Tryz.ntmps295 Tryz.results295
def tI (e:Int)(f:List GNode)(g:List GTie)(h i:Int)(b c a:List Int)(d:List (List Int))(j:Int):St:=⟨[(3,.ptr 192 1 0 0),(7,.ptr 448 1 0 0),(8,.ref 962 1 0 a.length),(19,.ref 1216 1 0 d.length),(20,.lit (.int .i64 e)),(21,.lit (.int .i64 j))],[(192,1,.var [.sl (ab GNode.encS f),.sl (ab GTie.enc g),.lit (.int .i64 h)]),(448,1,.var [.lit (.int .i64 i),.ref 960 1 0 b.length,.ref 961 1 0 c.length]),(960,1,.row true (ab eI b)),(961,1,.row true (ab eI c)),(962,1,.row true (ab eI a)),(1216,1,.tree (ab (eLS eI) d))],2⟩
attribute [go_sem] tI
@[go_sem] def hi257_5:DT:=.i1 0 (.r2 1 3 (.i0 4 [0] (.i2 5 (.i2 6 .nil))))
def IU:Hint where
 acts:=fun _=>[]
 draws:=fun
  | 5=>⟨hi257_5,[[],[],[],[],[1,2,3],.range 5,.range 6],.range 7⟩
  | _=>⟨.nil,[],[]⟩
@[go_sem] theorem Wy (i:Nat):IU.acts i=[]:=rfl
theorem QR (i:Nat):IU.views i=none:=rfl
attribute [go_sem] QR Tryz.ntmps257 Tryz.results257
@[go_sem] theorem Vx:(IU.draws 5).order=hi257_5:=rfl
def uu (d:List GNode)(e:List GTie)(f a:Int)(b c l:List Int)(n:Int):St:=⟨[(2,.ptr 128 1 0 0),(3,.ptr 192 1 0 0),(5,.ref 576 1 0 l.length),(6,.lit (.int .i64 n))],[(128,1,.var [.sl (ab GNode.encS d),.sl (ab GTie.enc e),.lit (.int .i64 f)]),(192,1,.var [.lit (.int .i64 a),.sl (ab eI b),.sl (ab eI c)]),(576,1,.row true (ab eI l))],2⟩
attribute [go_sem] uu
@[go_sem] def hi184_5:DT:=.i1 0 (.i1 1 (.i2 2 (.i2 3 (.i0 4 [0,1] (.i2 5 .nil)))))
def IV:Hint where
 acts:=fun _=>[]
 draws:=fun
  | 5=>⟨hi184_5,[[],[],[],[],[2,3],.range 5],.range 6⟩
  | _=>⟨.nil,[],[]⟩
theorem QS (i:Nat):IV.acts i=[]:=rfl
theorem QT (i:Nat):IV.views i=none:=rfl
attribute [go_sem] QS QT Tryz.ntmps184 Tryz.results184
@[go_sem] theorem Vy:(IV.draws 5).order=hi184_5:=rfl
def uv (f:List GNode)(g:List GTie)(h c:Int)(d e a b:List Int)(n:Int):St:=⟨[(2,.ptr 128 1 0 0),(3,.ptr 192 1 0 0),(5,.ref 1280 1 0 a.length),(6,.ref 1281 1 0 b.length),(7,.lit (.int .i64 n))],[(128,1,.var [.sl (ab GNode.encS f),.sl (ab GTie.enc g),.lit (.int .i64 h)]),(192,1,.var [.lit (.int .i64 c),.sl (ab eI d),.sl (ab eI e)]),(1280,1,.row true (ab eI a)),(1281,1,.row true (ab eI b))],2⟩
attribute [go_sem] uv
@[go_sem] def hi93_11:DT:=.i1 0 (.i1 1 (.i1 2 (.r2 3 3 (.i0 6 [0,1,2] (.i0 7 [0,1,2] (.i0 8 [0] (.i2 9 (.i2 10 .nil))))))))
def hi93:Hint where
 acts:=fun _=>[]
 draws:=fun
  | 11=>⟨hi93_11,[[],[],[],[],[],[],[4,5],[3,4,5,6],[1,2,3,4,5,6,7],.range 9,.range 10],.range 11⟩
  | _=>⟨.nil,[],[]⟩
theorem Tc (i:Nat):hi93.acts i=[]:=rfl
theorem Td (i:Nat):hi93.views i=none:=rfl
attribute [go_sem] Tc Td Tryz.ntmps93 Tryz.results93
@[go_sem] theorem Vz:(hi93.draws 11).order=hi93_11:=rfl
def sc (a b:Int)(c:List GNode)(d:List GTie)(e f:Int)(g h:List Int)(i:Bool)(j:List an)(k:Int)(m n:List Int)(l:List (List Int))(o:Int):St:=⟨[(2,.lit (.int .i64 a)),(3,.ptr 192 1 0 0),(4,.ptr 256 1 0 0),(8,.ref 896 1 0 l.length),(16,.lit (.int .i64 b)),(17,.lit (.int .i64 o))],[(192,1,.var [.sl (ab GNode.encS c),.sl (ab GTie.enc d),.lit (.int .i64 e),.lit (.int .i64 f),.sl (ab eI g),.sl (ab eI h),.lit (.bool i),.sl (ab an.encS j)]),(256,1,.var [.lit (.int .i64 k),.sl (ab eI m),.sl (ab eI n)]),(896,1,.tree (ab (eLS eI) l))],2⟩
attribute [go_sem] sc
attribute [go_sem] Tryz.ntmps233 Tryz.results233
def sd (o j h:List Int)(p q:Int)(r s:List Int)(k m:Int)(n:Bool)(t:Int)(a:List GNode)(b:List GTie)(c d:List Int)(e:List an)(f g i:List Int):(Int × (List Int) × (List Int))→St
 | (u,v,l)=>⟨[(1,.sl (ab eI o)),(3,.sl (ab eI j)),(4,.sl (ab eI h)),(7,.ptr 448 1 0 0),(10,.ptr 640 1 0 0),(11,.ptr 704 1 0 0),(12,.ptr 768 1 0 0),(13,.ref 1602 1 0 i.length),(14,.ref 1792 1 0 v.length),(15,.ref 1856 1 0 l.length),(30,.ref 1602 1 0 i.length),(31,.lit (.int .i64 p)),(32,.lit (.int .i64 u))],[(448,1,.var [.lit (.int .i64 q),.sl (ab eI r),.sl (ab eI s)]),(640,1,.var [.lit (.slice none 0 0),.lit (.slice none 0 0),.lit (.int .i64 0),.lit (.int .i64 0),.lit (.slice none 0 0),.lit (.slice none 0 0),.lit (.bool false),.lit (.slice none 0 0)]),(704,1,.var [.ref 1216 1 0 a.length,.ref 1217 1 0 b.length,.lit (.int .i64 k),.lit (.int .i64 m),.ref 1218 1 0 c.length,.ref 1219 1 0 d.length,.lit (.bool n),.ref 1220 1 0 e.length]),(1216,1,.row true (ab GNode.encO a)),(1217,1,.row true (ab GTie.enc b)),(1218,1,.row true (ab eI c)),(1219,1,.row true (ab eI d)),(1220,1,.row true (ab an.encO e)),(768,1,.var [.lit (.int .i64 t),.ref 1600 1 0 f.length,.ref 1601 1 0 g.length]),(1600,1,.row true (ab eI f)),(1601,1,.row true (ab eI g)),(1602,1,.row true (ab eI i)),(1792,1,.row true (ab eI v)),(1856,1,.row true (ab eI l))],2⟩
attribute [go_sem] sd
@[go_sem] def hi234_11:DT:=.i1 0 (.i1 1 (.i1 2 (.i1 3 (.i2 5 (.i2 8 (.i2 10 (.fork (.i0 4 [0,1,2,3] (.fork (.i0 6 [0,1,2,3] (.i0 7 [0,1,2,3] (.i0 9 [0,1,2,3] (.i2 11 (.i0 12 [0,1] (.i2 13 (.i2 14 (.i2 15 .nil)))))))) (.i0 7 [0,1,2,3] (.i0 6 [0,1,2,3] (.i0 9 [0,1,2,3] (.i2 11 (.i0 12 [0,1] (.i2 13 (.i2 14 (.i2 15 .nil)))))))))) (.i0 7 [0,1,2,3] (.i0 4 [0,1,2,3] (.i0 6 [0,1,2,3] (.i0 9 [0,1,2,3] (.i2 11 (.i0 12 [0,1] (.i2 13 (.i2 14 (.i2 15 .nil))))))))))))))))
def IW:Hint where
 acts:=fun _=>[]
 draws:=fun
  | 11=>⟨hi234_11,[[],[0],[],[2],[],[],[4,5],[],[],[4,5,6,7,8],[],[2,3,4,5,6,7,8,9,10],[2,3,4,5,6,7,8,9,10,11],.range 13,.range 14,.range 15],.range 16⟩
  | _=>⟨.nil,[],[]⟩
theorem QU (i:Nat):IW.acts i=[]:=rfl
theorem QV (i:Nat):IW.views i=none:=rfl
attribute [go_sem] QU QV Tryz.ntmps234 Tryz.results234
@[go_sem] theorem Ur:(IW.draws 11).order=hi234_11:=rfl
attribute [go_sem] Tryz.ntmps150 Tryz.results150
def tJ (i j:List Int):(Int × Int × Bool × (List GNode) × (List GTie) × (List Int) × (List Int) × (List an))→St
 | (f,g,h,a,b,c,d,e)=>⟨[(3,.ptr 192 1 0 0),(4,.ptr 256 1 0 0),(6,.ptr 384 1 0 0)],[(192,1,.var [.sl (ab eI i),.sl (ab eI j)]),(256,1,.var [.lit (.slice none 0 0),.lit (.slice none 0 0),.lit (.int .i64 0),.lit (.int .i64 0),.lit (.slice none 0 0),.lit (.slice none 0 0),.lit (.bool false),.lit (.slice none 0 0)]),(384,1,.var [.ref 704 1 0 a.length,.ref 705 1 0 b.length,.lit (.int .i64 f),.lit (.int .i64 g),.ref 706 1 0 c.length,.ref 707 1 0 d.length,.lit (.bool h),.ref 708 1 0 e.length]),(704,1,.row true (ab GNode.encO a)),(705,1,.row true (ab GTie.enc b)),(706,1,.row true (ab eI c)),(707,1,.row true (ab eI d)),(708,1,.row true (ab an.encO e))],2⟩
attribute [go_sem] tJ
@[go_sem] def hi138_4:DT:=.i1 0 (.i1 1 (.i1 2 (.i1 3 (.i1 4 (.i1 5 (.i1 7 (.i1 8 (.fork (.i0 6 [0,7,8] (.fork (.i2 9 (.i2 10 (.i2 11 (.i2 12 (.i2 13 (.i0 14 [0,1,2,3,4,5,7,8] (.i2 15 (.i2 16 (.i2 17 .nil))))))))) (.i0 14 [0,1,2,3,4,5,7,8] (.i2 9 (.i2 10 (.i2 11 (.i2 12 (.i2 13 (.i2 15 (.i2 16 (.i2 17 .nil))))))))))) (.i0 14 [0,1,2,3,4,5,7,8] (.i0 6 [0,7,8] (.i2 9 (.i2 10 (.i2 11 (.i2 12 (.i2 13 (.i2 15 (.i2 16 (.i2 17 .nil))))))))))))))))))
def IX:Hint where
 acts:=fun _=>[]
 draws:=fun
  | 4=>⟨hi138_4,[[],[],[1],[],[3],[],[1,2,3,4,5],[],[7],.range 9,.range 10,.range 11,.range 11,.range 11,[],[0,1,2,3,4,5,6,7,8,9,10,11,14],[0,1,2,3,4,5,6,7,8,9,10,11,12,14,15],.range 17],[0,1,2,3,4,5,6,7,8,9,10,11,14,16,12,13,15,17]⟩
  | _=>⟨.nil,[],[]⟩
theorem QW (i:Nat):IX.acts i=[]:=rfl
theorem QX (i:Nat):IX.views i=none:=rfl
attribute [go_sem] QW QX Tryz.ntmps138 Tryz.results138
@[go_sem] theorem VA:(IX.draws 4).order=hi138_4:=rfl
attribute [go_sem] Tryz.ntmps139 Tryz.results139
attribute [go_sem] Tryz.ntmps68 Tryz.results68
attribute [go_sem] Tryz.ntmps199 Tryz.results199
def sJ (a:List GLink)(b c d:Int):St:=⟨[(1,.ptr 64 1 0 0),(16,.sl (ab GLink.enc a)),(17,.lit (.int .i64 b)),(18,.lit (.int .i64 d))],[(64,1,.var [.lit (.int .i64 c),.sl (ab GLink.enc a)])],2⟩
attribute [go_sem] sJ
attribute [go_sem] Tryz.ntmps123 Tryz.results123
def qR (c:List GNode)(d:Int)(g:List GTie)(h:Int)(e f:List Int):(Int × (List Bool) × (List GLink))→St
 | (i,b,a)=>⟨[(2,.ptr 128 1 0 0),(3,.ptr 192 1 0 0),(4,.ptr 256 1 0 0),(6,.ptr 384 1 0 0),(7,.ref 1728 1 0 b.length),(29,.sl (ab GNode.encS c)),(30,.lit (.int .i64 d)),(31,.lit (.int .i64 i))],[(128,1,.var [.sl (ab GNode.encS c),.sl (ab GTie.enc g),.lit (.int .i64 h)]),(192,1,.var [.sl (ab eI e),.sl (ab eI f)]),(256,1,.var [.lit (.int .i64 0),.lit (.slice none 0 0)]),(384,1,.var [.lit (.int .i64 d),.ref 100024577 1 0 a.length]),(100024577,1,.row true (ab GLink.enc a)),(1728,1,.row true (ab eB b))],2⟩
attribute [go_sem] qR
def qS (d:List GTie)(g:Int)(h:List GNode)(i:Int)(e f:List Int)(c:Int)(b:List Bool):(Int × (List GLink))→St
 | (j,a)=>⟨[(2,.ptr 128 1 0 0),(3,.ptr 192 1 0 0),(4,.ptr 256 1 0 0),(6,.ptr 384 1 0 0),(7,.ref 1728 1 0 b.length),(61,.sl (ab GTie.enc d)),(62,.lit (.int .i64 g)),(63,.lit (.int .i64 j))],[(128,1,.var [.sl (ab GNode.encS h),.sl (ab GTie.enc d),.lit (.int .i64 i)]),(192,1,.var [.sl (ab eI e),.sl (ab eI f)]),(256,1,.var [.lit (.int .i64 0),.lit (.slice none 0 0)]),(384,1,.var [.lit (.int .i64 c),.ref 100024577 1 0 a.length]),(100024577,1,.row true (ab GLink.enc a)),(1728,1,.row true (ab eB b))],2⟩
attribute [go_sem] qS
def qT (c:Int)(e:List GNode)(f:List GTie)(g:Int)(b:List Bool):(Int × (List GLink))→St
 | (d,a)=>⟨[(2,.ptr 128 1 0 0),(4,.ptr 256 1 0 0),(6,.ptr 384 1 0 0),(7,.ref 1728 1 0 b.length),(114,.lit (.int .i64 c)),(115,.lit (.int .i64 d))],[(128,1,.var [.sl (ab GNode.encS e),.sl (ab GTie.enc f),.lit (.int .i64 g)]),(256,1,.var [.lit (.int .i64 0),.lit (.slice none 0 0)]),(384,1,.var [.lit (.int .i64 c),.ref 100024577 1 0 a.length]),(100024577,1,.row true (ab GLink.enc a)),(1728,1,.row true (ab eB b))],2⟩
attribute [go_sem] qT
def qU (i:Int)(c:List GNode)(d:Int)(e:List Int)(f:Int)(h:List GTie)(j:Int)(b:List Bool):(Int × (List GLink))→St
 | (g,a)=>⟨[(2,.ptr 128 1 0 0),(4,.ptr 256 1 0 0),(6,.ptr 384 1 0 0),(7,.ref 1728 1 0 b.length),(14,.lit (.int .i64 i)),(132,.sl (ab GNode.encS c)),(133,.lit (.int .i64 d)),(134,.lit (.int .i64 i)),(140,.sl (ab eI e)),(141,.lit (.int .i64 f)),(142,.lit (.int .i64 g))],[(128,1,.var [.sl (ab GNode.encS c),.sl (ab GTie.enc h),.lit (.int .i64 j)]),(256,1,.var [.lit (.int .i64 0),.lit (.slice none 0 0)]),(384,1,.var [.lit (.int .i64 d),.ref 100024577 1 0 a.length]),(100024577,1,.row true (ab GLink.enc a)),(1728,1,.row true (ab eB b))],2⟩
attribute [go_sem] qU
def qV (c:List GNode)(d:Int)(f:List GTie)(g:Int)(b:List Bool):(Int × (List GLink))→St
 | (e,a)=>⟨[(2,.ptr 128 1 0 0),(4,.ptr 256 1 0 0),(6,.ptr 384 1 0 0),(7,.ref 1728 1 0 b.length),(132,.sl (ab GNode.encS c)),(133,.lit (.int .i64 d)),(134,.lit (.int .i64 e))],[(128,1,.var [.sl (ab GNode.encS c),.sl (ab GTie.enc f),.lit (.int .i64 g)]),(256,1,.var [.lit (.int .i64 0),.lit (.slice none 0 0)]),(384,1,.var [.lit (.int .i64 d),.ref 100024577 1 0 a.length]),(100024577,1,.row true (ab GLink.enc a)),(1728,1,.row true (ab eB b))],2⟩
attribute [go_sem] qV
@[go_sem] def hi54_35:DT:=.i1 0 (.i1 1 (.i1 2 (.i2 3 (.i2 6 (.i2 7 (.i0 4 [0,1,2] (.i0 5 [0,1] (.i2 8 (.i0 9 [0,1] (.r2 10 3 .nil))))))))))
def hi54:Hint where
 acts:=fun _=>[]
 draws:=fun
  | 35=>⟨hi54_35,[[],[0],[],[],[3],[2,3,4],[],[],[2,3,4,5,6,7],[2,3,4,5,6,7,8],.range 10,.range 11,.range 12],.range 13⟩
  | _=>⟨.nil,[],[]⟩
theorem Te (i:Nat):hi54.acts i=[]:=rfl
theorem Tf (i:Nat):hi54.views i=none:=rfl
attribute [go_sem] Te Tf Tryz.ntmps54 Tryz.results54
@[go_sem] theorem VB:(hi54.draws 35).order=hi54_35:=rfl
@[go_sem] def hi55_1:DT:=.r2 0 24 .nil
def hi55:Hint where
 acts:=fun _=>[]
 draws:=fun
  | 1=>⟨hi55_1,[[],[],[0,1],[0,1,2],[0,1,2,3],[0,1,2,3],[0,1,2,3,5],[0,1,2,3,5,6],[0,1,2,3,5,6,7],.range 9,.range 10,.range 11,.range 12,.range 13,.range 12,.range 15,.range 16,.range 17,.range 12,[0,1,2,3,4,5,6,7,8,9,10,11,18],.range 20,.range 21,.range 22,.range 23],.range 24⟩
  | _=>⟨.nil,[],[]⟩
theorem Tg (i:Nat):hi55.acts i=[]:=rfl
theorem Th (i:Nat):hi55.views i=none:=rfl
attribute [go_sem] Tg Th Tryz.ntmps55 Tryz.results55
@[go_sem] theorem Wz:(hi55.draws 1).order=hi55_1:=rfl
def sK (a:List Int)(b c:Int):St:=⟨[(17,.sl (ab eI a)),(18,.lit (.int .i64 b)),(19,.lit (.int .i64 c))],[],2⟩
attribute [go_sem] sK
attribute [go_sem] Tryz.ntmps125 Tryz.results125
attribute [go_sem] Tryz.ntmps200 Tryz.results200
def rt (a:List Int)(b:List GLink)(c d:Int):St:=⟨[(1,.sl (ab eI a)),(12,.sl (ab GLink.enc b)),(13,.lit (.int .i64 c)),(14,.lit (.int .i64 d))],[],2⟩
attribute [go_sem] rt
@[go_sem] def hi126_6:DT:=.r2 0 15 .nil
def IY:Hint where
 acts:=fun _=>[]
 draws:=fun
  | 6=>⟨hi126_6,[[],[0],[],[],[3],[2,3,4],[2,3,4,5],[],[],[8],[7,8,9],[7,8,9,10],[2,3,4,5,6,7,8,9,10,11],.range 13,.range 14],.range 15⟩
  | _=>⟨.nil,[],[]⟩
theorem QY (i:Nat):IY.acts i=[]:=rfl
theorem QZ (i:Nat):IY.views i=none:=rfl
attribute [go_sem] QY QZ Tryz.ntmps126 Tryz.results126
@[go_sem] theorem VC:(IY.draws 6).order=hi126_6:=rfl
attribute [go_sem] Tryz.ntmps56 Tryz.results56
def sL (e:List Int)(f:Int)(g:List GNode)(h:List GTie)(i:Int)(c d:List Int)(j:Int)(a:List GLink):(Int × (List Int))→St
 | (k,b)=>⟨[(3,.ptr 192 1 0 0),(4,.ptr 256 1 0 0),(7,.ptr 448 1 0 0),(9,.ref 1792 1 0 b.length),(29,.sl (ab eI e)),(30,.lit (.int .i64 f)),(31,.lit (.int .i64 k))],[(192,1,.var [.sl (ab GNode.encS g),.sl (ab GTie.enc h),.lit (.int .i64 i)]),(256,1,.var [.sl (ab eI c),.sl (ab eI d)]),(448,1,.var [.lit (.int .i64 j),.ref 960 1 0 a.length]),(960,1,.row true (ab GLink.enc a)),(1792,1,.row true (ab eI b))],2⟩
attribute [go_sem] sL
attribute [go_sem] Tryz.ntmps11 Tryz.results11
def pI (a:Bool)(b:List GNode)(c:List GTie)(d n:Int):St:=⟨[(1,.lit (.bool a)),(2,.ptr 128 1 0 0),(5,.lit (.int .i64 n))],[(128,1,.var [.sl (ab GNode.encS b),.sl (ab GTie.enc c),.lit (.int .i64 d)])],2⟩
attribute [go_sem] pI
attribute [go_sem] Tryz.ntmps19 Tryz.results19
def oS (s:ByteArray)(i:Int):St:=⟨[(0,.lit (.string s)),(3,.lit (.int .i64 i))],[],2⟩
attribute [go_sem] oS
@[go_sem] def hi266_4:DT:=.r2 0 22 .nil
def EG:Hint where
 acts:=fun _=>[]
 draws:=fun
  | 4=>⟨hi266_4,[[],[],[0,1],[0,1,2],[0,1,2,3],.range 5,.range 5,.range 7,.range 8,.range 9,[],[],[10,11],[10,11,12],[0,1,2,3,4,10,11,12,13],[0,1,2,3,4,10,11,12,13,14],[0,1,2,3,4,10,11,12,13,14],[0,1,2,3,4,10,11,12,13,14,15,16],[0,1,2,3,4,10,11,12,13,14,15,16,17],[0,1,2,3,4,10,11,12,13,14,15,16,17,18],.range 15,.range 21],[0,1,2,3,4,5,6,7,8,9,10,11,12,13,14,16,17,18,19,20,15,21]⟩
  | _=>⟨.nil,[],[]⟩
theorem Ra (i:Nat):EG.acts i=[]:=rfl
theorem Rb (i:Nat):EG.views i=none:=rfl
attribute [go_sem] Ra Rb Tryz.ntmps266 Tryz.results266
@[go_sem] theorem VD:(EG.draws 4).order=hi266_4:=rfl
instance k266 {s:ByteArray}:Ctr (iU s) (fun (res:Bool)=>aj Tryz.prog 266 [.lit (.string s)] [] (.lit (.bool res)) []):=⟨by
 intro res h0
 refine co (hi:=EG) Tryz.func266 rfl rfl ?_
 unfold iU at h0
 obtain ⟨q02,l0,h0⟩:=af h0
 simp(config:=cS)only[go_sem, *]
 refine ak (m1:=.mk) (m2:=.mk) [.nf [0,3] []] (oS s) l0 ?_ ?_
 ·simp(config:=cS)only[go_sem, *]
 ·have k0:=h0
  clear h0 l0
  intro _ i_1 _ h0 gb0
  unfold fS at h0
  try dsimp only at h0
  exact run⟩
attribute [go_sem] Tryz.ntmps176 Tryz.results176
instance k176 {l:Int}:Ctr (cH l) (fun (res:Int)=>aj Tryz.prog 176 [.lit (.int .i64 l)] [] (.lit (.int .i64 res)) []):=⟨by
 intro res h0
 refine co (hi:=hi00) Tryz.func176 rfl rfl ?_
 unfold cH at h0
 exact run⟩
def nX (l:List Int)(a b:Int):St:=⟨[(0,.sl (ab eI l)),(5,.sl (ab eI l)),(6,.lit (.int .i64 a)),(7,.lit (.int .i64 b))],[],2⟩
attribute [go_sem] nX
attribute [go_sem] Tryz.ntmps172 Tryz.results172
instance k172 {l:List Int}:Ctr (dy l) (fun (res:Bool)=>aj Tryz.prog 172 [.sl (ab eI l)] [] (.lit (.bool res)) []):=⟨by
 intro res h0
 refine co (hi:=hi00) Tryz.func172 rfl rfl ?_
 unfold dy at h0
 obtain ⟨q05,l0,h0⟩:=af h0
 simp(config:=cS)only[go_sem, *]
 refine ak (m1:=.mk) (m2:=.mk) [.nf [0,5,6,7] []] (nX l ((l.length:Nat):Int)) l0 ?_ ?_
 ·simp(config:=cS)only[go_sem, *]
 ·have k0:=h0
  clear h0 l0
  intro _ v7_1 _ h0 gb0
  unfold fe at h0
  try dsimp only at h0
  exact run⟩
attribute [go_sem] Tryz.ntmps223 Tryz.results223
instance k223 {n:GNode}:Ctr (kR n) (fun (res:Bool)=>aj Tryz.prog 223 [.agg (GNode.encS n)] [] (.lit (.bool res)) []):=⟨by
 intro res h0
 refine co (hi:=hi00) Tryz.func223 rfl rfl ?_
 unfold kR at h0
 exact run⟩
def nj (a:List GNode)(b c:Int)(d:List GNode)(e:Int)(f:List GTie)(g:Int)(h:ByteArray)(i:List Int)(j k:Int):St:=⟨[(1,.ptr 64 1 0 0),(4,.ptr 256 1 0 0),(35,.sl (ab GNode.encS a)),(36,.lit (.int .i64 b)),(37,.lit (.int .i64 c)),(48,.sl (ab GNode.encS d)),(49,.lit (.int .i64 e)),(50,.lit (.int .i64 k))],[(64,1,.var [.sl (ab GNode.encS a),.sl (ab GTie.enc f),.lit (.int .i64 g)]),(256,1,.var [.lit (.string h),.sl (ab eI i),.lit (.int .i64 j)])],2⟩
attribute [go_sem] nj
def nk (a:List GNode)(b:Int)(c:List GTie)(d e:Int):St:=⟨[(1,.ptr 64 1 0 0),(35,.sl (ab GNode.encS a)),(36,.lit (.int .i64 b)),(37,.lit (.int .i64 e))],[(64,1,.var [.sl (ab GNode.encS a),.sl (ab GTie.enc c),.lit (.int .i64 d)])],2⟩
attribute [go_sem] nk
attribute [go_sem] Tryz.ntmps142 Tryz.results142
instance k142 {s:GShow}:Ctr (jg s) (fun (res:Bool)=>aj Tryz.prog 142 [.agg (GShow.encS s)] [] (.lit (.bool res)) []):=⟨by
 intro res h0
 refine co (hi:=hi00) Tryz.func142 rfl rfl ?_
 unfold jg at h0
 obtain ⟨_,h0⟩|⟨_,h0⟩:=itP h0
 ·exact run
 ·obtain ⟨_,h0⟩|⟨_,h0⟩:=itP h0
  ·exact run
  ·obtain ⟨x01,g1,h0⟩:=af h0
   have:=cR (k:=0) g1
   obtain ⟨_,h0⟩|⟨_,h0⟩:=itP h0
   ·exact run
   ·obtain ⟨_,h0⟩|⟨_,h0⟩:=itP h0
    ·obtain ⟨q06,l0,h0⟩:=af h0
     simp(config:=cS)only[go_sem, *]
     refine ak (m1:=.mk) (m2:=.mk) [.nf [1,35,36,37] [64]] (nk s.nodes ((s.nodes.length:Nat):Int) s.ties s.horizon) l0 ?_ ?_
     ·simp(config:=cS)only[go_sem, *]
     ·have k0:=h0
      clear h0 l0
      intro _ v37_1 _ h0 gb0
      unfold ep at h0
      try dsimp only at h0
      obtain ⟨_,h0⟩|⟨_,h0⟩:=itP h0
      ·obtain ⟨x02,_,_,_,h0⟩:=gtI h0
       obtain ⟨r03,g0,h0⟩:=af h0
       simp(config:=cS)only[go_sem, *]
       have g0:=ctr g0
       refine ah g0 ?_
       obtain ⟨_,h0⟩|⟨_,h0⟩:=itB h0
       ·obtain ⟨_,h0⟩:=ckP h0
        obtain ⟨_,h0⟩:=ckP h0
        obtain ⟨q05,l0,h0⟩:=af h0
        simp(config:=cS)only[go_sem, *]
        refine ak (m1:=.mk) (m2:=.mk) [.nf [1,4,35,36,37,48,49,50] [64,256]] (nj s.nodes ((s.nodes.length:Nat):Int) v37_1 (s.nodes.take v37_1.toNat) (((s.nodes.take v37_1.toNat).length:Nat):Int) s.ties s.horizon x02.name x02.label x02.watch) l0 ?_ ?_
        ·simp(config:=cS)only[go_sem, *]
        ·have k0:=h0
         clear h0 l0
         intro _ v50_2 _ h0 gb0
         unfold eo at h0
         try dsimp only at h0
         exact run
       ·exact run
      ·exact run
    ·exact run⟩
attribute [go_sem] Tryz.ntmps103 Tryz.results103
instance k103 {n:Int} {node:Int}:Ctr (cj n node) (fun (res:Bool)=>aj Tryz.prog 103 [.lit (.int .i64 n),.lit (.int .i64 node)] [] (.lit (.bool res)) []):=⟨by
 intro res h0
 refine co (hi:=hi00) Tryz.func103 rfl rfl ?_
 unfold cj at h0
 exact run⟩
attribute [go_sem] Tryz.ntmps224 Tryz.results224
instance k224 {n:Int}:Ctr (iV n) (fun (res:Bool)=>aj Tryz.prog 224 [.lit (.int .i64 n)] [] (.lit (.bool res)) []):=⟨by
 intro res h0
 refine co (hi:=hi00) Tryz.func224 rfl rfl ?_
 unfold iV at h0
 exact run⟩
def lC (c d:List Int)(a b:Int):St:=⟨[(0,.sl (ab eI c)),(1,.sl (ab eI d)),(12,.lit (.int .i64 a)),(13,.lit (.int .i64 b))],[],2⟩
attribute [go_sem] lC
@[go_sem] def hi91_6:DT:=.r2 0 9 .nil
def hi91:Hint where
 acts:=fun _=>[]
 draws:=fun
  | 6=>⟨hi91_6,[[],[],[0,1],[0,1,2],[],[],[4,5],[4,5,6],.range 8],.range 9⟩
  | _=>⟨.nil,[],[]⟩
theorem Ti (i:Nat):hi91.acts i=[]:=rfl
theorem Tj (i:Nat):hi91.views i=none:=rfl
attribute [go_sem] Ti Tj Tryz.ntmps91 Tryz.results91
@[go_sem] theorem WA:(hi91.draws 6).order=hi91_6:=rfl
instance k91 {v0:List Int} {v1:List Int}:Ctr (bX v0 v1) (fun (res:Bool)=>aj Tryz.prog 91 [.sl (ab eI v0),.sl (ab eI v1)] [] (.lit (.bool res)) []):=⟨by
 intro res h0
 refine co (hi:=hi91) Tryz.func91 rfl rfl ?_
 unfold bX at h0
 obtain ⟨_,h0⟩|⟨_,h0⟩:=itP h0
 ·obtain ⟨q03,l0,h0⟩:=af h0
  simp(config:=cS)only[go_sem, *]
  refine ak (m1:=.mk) (m2:=.mk) [.nf [0,1,12,13] []] (lC v0 v1 ((v0.length:Nat):Int)) l0 ?_ ?_
  ·simp(config:=cS)only[go_sem, *]
  ·have k0:=h0
   clear h0 l0
   intro _ v13_1 _ h0 gb0
   unfold cZ at h0
   try dsimp only at h0
   exact run
 ·exact run⟩
end Go.Proofs.Qf
