/- Functions. -/
import Derived.Test.YtpkcmjnlnbddbaaGreatDoorXaFK1
set_option linter.all false
set_option maxRecDepth 100000
set_option maxHeartbeats 4000000
namespace Go.Proofs.Qa
open Go
def lN  : (Int × (List Int))→St
 | (b,a)=>⟨[(7,.ref 1920 1 0 a.length),(8,.lit (.int .i64 b))],[(1920,1,.row true (ab eI a))],2⟩
attribute [go_sem] lN
@[go_sem] def hi98_9:DT:=.i2 0 (.i2 1 (.i2 2 (.i2 3 (.i2 4 (.i2 5 (.i2 6 (.i2 7 (.i2 8 (.i2 9 .nil)))))))))
def hi98:Hint where
 acts:=fun _=>[]
 draws:=fun
  | 9=>⟨hi98_9,[[],[],[],[1,2],[],[],[4,5],[1,2,3,4,5,6],.range 8,.range 9],.range 10⟩
  | _=>⟨.nil,[],[]⟩
theorem Me (i:Nat):hi98.acts i=[]:=rfl
theorem Mf (i:Nat):hi98.views i=none:=rfl
attribute [go_sem] Me Mf Tryz.ntmps98 Tryz.results98
@[go_sem] theorem Pd:(hi98.draws 9).order=hi98_9:=rfl
@[go_sem] def hi35_3:DT:=.i1 1 (.i1 2 (.i1 3 (.fork (.i0 0 [1,2,3] (.fork (.i2 4 (.fork (.i0 5 [1,2,3] (.i2 6 (.i0 7 [1,2,3] (.i2 8 .nil)))) (.i0 7 [1,2,3] (.i0 5 [1,2,3] (.i2 6 (.i2 8 .nil)))))) (.fork (.i0 5 [1,2,3] (.fork (.i2 4 (.i2 6 (.i0 7 [1,2,3] (.i2 8 .nil)))) (.i0 7 [1,2,3] (.i2 4 (.i2 6 (.i2 8 .nil)))))) (.i0 7 [1,2,3] (.fork (.i2 4 (.i0 5 [1,2,3] (.i2 6 (.i2 8 .nil)))) (.i0 5 [1,2,3] (.i2 4 (.i2 6 (.i2 8 .nil))))))))) (.fork (.i0 5 [1,2,3] (.fork (.i0 0 [1,2,3] (.fork (.i2 4 (.i2 6 (.i0 7 [1,2,3] (.i2 8 .nil)))) (.i0 7 [1,2,3] (.i2 4 (.i2 6 (.i2 8 .nil)))))) (.i0 7 [1,2,3] (.i0 0 [1,2,3] (.i2 4 (.i2 6 (.i2 8 .nil))))))) (.i0 7 [1,2,3] (.fork (.i0 0 [1,2,3] (.fork (.i2 4 (.i0 5 [1,2,3] (.i2 6 (.i2 8 .nil)))) (.i0 5 [1,2,3] (.i2 4 (.i2 6 (.i2 8 .nil)))))) (.i0 5 [1,2,3] (.i0 0 [1,2,3] (.i2 4 (.i2 6 (.i2 8 .nil)))))))))))
def hi35:Hint where
 acts:=fun _=>[]
 draws:=fun
  | 3=>⟨hi35_3,[[],[],[1],[1,2],[0,1,2,3],[],.range 6,[],.range 8],.range 9⟩
  | _=>⟨.nil,[],[]⟩
theorem Mg (i:Nat):hi35.acts i=[]:=rfl
theorem Mh (i:Nat):hi35.views i=none:=rfl
attribute [go_sem] Mg Mh Tryz.ntmps35 Tryz.results35
@[go_sem] theorem Pe:(hi35.draws 3).order=hi35_3:=rfl
@[go_sem] def hi37_3:DT:=.i2 0 (.i1 2 (.i2 4 (.i0 1 [2] (.i2 3 (.i2 5 (.i2 6 (.i2 7 .nil)))))))
def hi37:Hint where
 acts:=fun _=>[]
 draws:=fun
  | 3=>⟨hi37_3,[[],[0],[],[0,1,2],[],.range 5,.range 6,.range 7],.range 8⟩
  | _=>⟨.nil,[],[]⟩
theorem Mi (i:Nat):hi37.acts i=[]:=rfl
theorem Mj (i:Nat):hi37.views i=none:=rfl
attribute [go_sem] Mi Mj Tryz.ntmps37 Tryz.results37
@[go_sem] theorem Pf:(hi37.draws 3).order=hi37_3:=rfl
def jt (d:Int)(e:List GNode)(f:List GTie)(g:Int)(b c a:List Int)(h:Int):St:=⟨[(2,.ptr 128 1 0 0),(3,.ptr 192 1 0 0),(24,.ref 704 1 0 a.length),(25,.lit (.int .i64 d)),(26,.lit (.int .i64 h))],[(128,1,.var [.sl (ab GNode.encS e),.sl (ab GTie.enc f),.lit (.int .i64 g)]),(192,1,.var [.sl (ab eI b),.sl (ab eI c)]),(704,1,.row true (ab eI a))],2⟩
attribute [go_sem] jt
def ju (a:List Int)(b:Int)(c:List GNode)(d:List GTie)(e f:Int):St:=⟨[(2,.ptr 128 1 0 0),(59,.sl (ab eI a)),(60,.lit (.int .i64 b)),(61,.lit (.int .i64 f))],[(128,1,.var [.sl (ab GNode.encS c),.sl (ab GTie.enc d),.lit (.int .i64 e)])],2⟩
attribute [go_sem] ju
@[go_sem] def hi85_7:DT:=.i2 0 (.i2 1 (.i2 2 (.i2 3 (.i2 4 (.i2 5 (.i2 6 (.i2 7 (.i2 8 (.i2 9 (.i2 10 (.i2 11 (.i2 12 (.i2 13 (.i2 14 (.i2 15 (.i2 16 (.i2 17 (.i2 18 (.i2 19 (.i2 20 (.i2 21 (.i2 22 (.i2 23 (.i2 24 (.i2 25 .nil)))))))))))))))))))))))))
def hi85:Hint where
 acts:=fun _=>[]
 draws:=fun
  | 7=>⟨hi85_7,[[],[0],[],[0,1,2],[0,1,2,3],[],[5],[],[5,6,7],[5,6,7,8],[5,6,7,8,9],.range 11,.range 12,.range 13,.range 14,.range 13,.range 16,.range 17,.range 13,[0,1,2,3,4,5,6,7,8,9,10,11,12,18],.range 13,[0,1,2,3,4,5,6,7,8,9,10,11,12,18,19,20],[0,1,2,3,4,5,6,7,8,9,10,11,12,18,19,20,21],[0,1,2,3,4,5,6,7,8,9,10,11,12,18,19,20,21,22],.range 24,.range 25],.range 26⟩
  | _=>⟨.nil,[],[]⟩
theorem Ml (i:Nat):hi85.acts i=[]:=rfl
theorem Mm (i:Nat):hi85.views i=none:=rfl
attribute [go_sem] Ml Mm Tryz.ntmps85 Tryz.results85
@[go_sem] theorem Pg:(hi85.draws 7).order=hi85_7:=rfl
theorem vW {s:GShow}{v1:GChoice}{res:Bool}(h:fA s v1=some res):ar Tryz.prog 85 [.agg (GShow.encS s),.agg [.sl (ab eI v1.lengths),.sl (ab eI v1.values)]] [] (.lit (.bool res)) []:=by
 refine am (ra:=[]) (md:=mdT) hT (hi:=hi85) Tryz.func85 rfl rfl (by decide +kernel) (by simp) ?_
 unfold fA at h
 obtain ⟨r01,g1,h⟩:=ae h
 simp(config:=cS)only[go_sem]
 refine ah (mQ g1) ?_
 obtain ⟨h2,h⟩|⟨h2,h⟩:=af h
 ·obtain ⟨h3,h⟩|⟨h3,h⟩:=af h
  ·obtain ⟨q09,l4,h⟩:=ae h
   simp(config:=cS)only[go_sem,eqT h2,eqT h3]
   refine ay (m1:=.mk) (m2:=.mk) [.nf [2,3,24,25,26] [128,192,704]] (jt ((r01.length:Nat):Int) s.nodes s.ties s.horizon v1.lengths v1.values r01) l4 ?_ ?_
   ·simp(config:=cS)only[go_sem]
   ·intro nb5 v26_1 bb5 b5 gb5
    unfold cV at b5
    try dsimp only at b5
    obtain ⟨h6,b5⟩|⟨h6,b5⟩:=af b5
    ·obtain ⟨x02,g7,b5⟩:=ae b5
     obtain ⟨h8,h9,h10⟩:=ao g7
     obtain ⟨x03,g11,b5⟩:=ae b5
     obtain ⟨h12,h13,h14⟩:=ao g11
     obtain ⟨x04,g15,b5⟩:=ae b5
     obtain ⟨h16,h17,h18⟩:=ao g15
     obtain ⟨h19,b5⟩|⟨h19,b5⟩:=af b5
     ·cases b5
      obtain rfl:=(ak gb5).symm
      try dsimp only at h
      cases h
      simp(config:=cS)only[go_sem,eqT h6,h8,h9,h10,h12,h13,h14,h16,h17,h18,eqT h19]
     ·obtain ⟨h21,b5⟩|⟨h21,b5⟩:=af b5
      ·cases b5
       obtain rfl:=(ak gb5).symm
       try dsimp only at h
       cases h
       simp(config:=cS)only[go_sem,eqT h6,h8,h9,h10,h12,h13,h14,h16,h17,h18,eqF h19,eqT h21]
      ·cases b5
       simp(config:=cS)only[go_sem,eqT h6,h8,h9,h10,h12,h13,h14,h16,h17,h18,eqF h19,eqF h21]
       refine az gb5 ?_
       simp(config:=cS)only[go_sem]
    ·cases b5
     obtain rfl:=(ak gb5).symm
     try dsimp only at h
     obtain ⟨q08,l24,h⟩:=ae h
     simp(config:=cS)only[go_sem,eqF h6]
     refine ay (m1:=.mk) (m2:=.mk) [.nf [2,59,60,61] [128]] (ju v1.values ((v1.values.length:Nat):Int) s.nodes s.ties s.horizon) l24 ?_ ?_
     ·simp(config:=cS)only[go_sem]
     ·intro nb25 v61_2 bb25 b25 gb25
      unfold cW at b25
      try dsimp only at b25
      obtain ⟨h26,b25⟩|⟨h26,b25⟩:=af b25
      ·obtain ⟨x05,g27,b25⟩:=ae b25
       obtain ⟨h28,h29,h30⟩:=ao g27
       obtain ⟨h31,b25⟩|⟨h31,b25⟩:=af b25
       ·obtain ⟨h32,b25⟩|⟨h32,b25⟩:=af b25
        ·obtain ⟨r06,g33,b25⟩:=ae b25
         simp(config:=cS)only[go_sem,eqT h26,h28,h29,h30,eqT h31,eqT h32]
         refine ah (iv g33) ?_
         obtain ⟨h34,b25⟩|⟨h34,b25⟩:=af b25
         ·cases b25
          obtain rfl:=(ak gb25).symm
          try dsimp only at h
          cases h
          simp(config:=cS)only[go_sem,eqT h34]
         ·cases b25
          simp(config:=cS)only[go_sem,eqF h34]
          refine az gb25 ?_
          simp(config:=cS)only[go_sem]
        ·cases b25
         simp(config:=cS)only[go_sem,eqT h26,h28,h29,h30,eqT h31,eqF h32]
         refine az gb25 ?_
         simp(config:=cS)only[go_sem]
       ·obtain ⟨h36,b25⟩|⟨h36,b25⟩:=af b25
        ·obtain ⟨r07,g37,b25⟩:=ae b25
         simp(config:=cS)only[go_sem,eqT h26,h28,h29,h30,eqF h31,eqT h36]
         refine ah (iv g37) ?_
         obtain ⟨h38,b25⟩|⟨h38,b25⟩:=af b25
         ·cases b25
          obtain rfl:=(ak gb25).symm
          try dsimp only at h
          cases h
          simp(config:=cS)only[go_sem,eqT h38]
         ·cases b25
          simp(config:=cS)only[go_sem,eqF h38]
          refine az gb25 ?_
          simp(config:=cS)only[go_sem]
        ·cases b25
         obtain rfl:=(ak gb25).symm
         try dsimp only at h
         cases h
         simp(config:=cS)only[go_sem,eqT h26,h28,h29,h30,eqF h31,eqF h36]
      ·cases b25
       obtain rfl:=(ak gb25).symm
       try dsimp only at h
       cases h
       simp(config:=cS)only[go_sem,eqF h26]
  ·cases h
   simp(config:=cS)only[go_sem,eqT h2,eqF h3]
 ·cases h
  simp(config:=cS)only[go_sem,eqF h2]
@[go_sem] def hi159_1:DT:=.i1 0 (.i1 1 (.i2 2 (.i2 3 (.i1 5 (.i1 6 (.i0 4 [0,1,5,6] (.i0 7 [0,1] (.i2 8 (.i2 9 .nil)))))))))
def Do:Hint where
 acts:=fun _=>[]
 draws:=fun
  | 1=>⟨hi159_1,[[],[0],[],[2],[2,3],[],[5],[2,3,4,5,6],.range 8,.range 9],.range 10⟩
  | _=>⟨.nil,[],[]⟩
theorem Kk (i:Nat):Do.acts i=[]:=rfl
theorem Kl (i:Nat):Do.views i=none:=rfl
attribute [go_sem] Kk Kl Tryz.ntmps159 Tryz.results159
@[go_sem] theorem Ol:(Do.draws 1).order=hi159_1:=rfl
def oZ (b:List aw)(c:Int):(Int × (List aw))→St
 | (d,a)=>⟨[(3,.ref 255 1 0 a.length),(6,.sl (ab aw.encS b)),(7,.lit (.int .i64 c)),(8,.lit (.int .i64 d))],[(255,1,.row true (ab aw.encO a))],2⟩
attribute [go_sem] oZ
@[go_sem] def hi160_5:DT:=.i2 0 (.i1 1 (.i1 2 (.i2 3 (.i2 4 (.i1 6 (.i1 7 (.i1 9 (.i1 10 (.i0 5 [1,2,6,7,9,10] (.i0 8 [1,2,9,10] (.i0 11 [1,2] (.i2 12 (.i2 13 (.i2 14 (.i2 15 .nil)))))))))))))))
def Dp:Hint where
 acts:=fun _=>[]
 draws:=fun
  | 5=>⟨hi160_5,[[],[],[1],[],[3],[3,4],[],[6],[3,4,5,6,7],[],[9],[3,4,5,6,7,8,9,10],[1,2,3,4,5,6,7,8,9,10,11],[1,2,3,4,5,6,7,8,9,10,11,12],.range 14,.range 15],.range 16⟩
  | _=>⟨.nil,[],[]⟩
theorem Km (i:Nat):Dp.acts i=[]:=rfl
theorem Kn (i:Nat):Dp.views i=none:=rfl
attribute [go_sem] Km Kn Tryz.ntmps160 Tryz.results160
@[go_sem] theorem Om:(Dp.draws 5).order=hi160_5:=rfl
@[go_sem] def hi84_1:DT:=.i2 0 (.i2 1 (.i1 3 (.i1 4 (.i1 6 (.i1 7 (.i1 8 (.i1 9 (.i0 2 [3,4,6,7,8,9] (.i0 5 [6,7,8,9] (.i0 10 [6,7] (.i2 11 (.i2 12 .nil))))))))))))
def hi84:Hint where
 acts:=fun _=>[]
 draws:=fun
  | 1=>⟨hi84_1,[[],[0],[0,1],[],[3],.range 5,[],[6],[],[8],[0,1,2,3,4,5,8,9],.range 11,.range 12],.range 13⟩
  | _=>⟨.nil,[],[]⟩
theorem Mn (i:Nat):hi84.acts i=[]:=rfl
theorem Mo (i:Nat):hi84.views i=none:=rfl
attribute [go_sem] Mn Mo Tryz.ntmps84 Tryz.results84
@[go_sem] theorem Ph:(hi84.draws 1).order=hi84_1:=rfl
attribute [go_sem] Tryz.ntmps269 Tryz.results269
theorem qG {n:Int}{res:Bool}(h:fB n=some res):ar Tryz.prog 269 [.lit (.int .i64 n)] [] (.lit (.bool res)) []:=by
 refine am (ra:=[]) (md:=mdT) hT (hi:=hi00) Tryz.func269 rfl rfl (by decide +kernel) (by simp) ?_
 unfold fB at h
 obtain ⟨h1,h⟩|⟨h1,h⟩:=af h
 ·cases h
  simp(config:=cS)only[go_sem,eqT h1]
 ·cases h
  simp(config:=cS)only[go_sem,eqF h1]
attribute [go_sem] Tryz.ntmps201 Tryz.results201
theorem vX {v:List Int}{res:Bool}(h:fC v=some res):ar Tryz.prog 201 [.sl (ab eI v)] [] (.lit (.bool res)) []:=by
 refine am (ra:=[]) (md:=mdT) hT (hi:=hi00) Tryz.func201 rfl rfl (by decide +kernel) (by simp) ?_
 unfold fC at h
 obtain ⟨h1,h⟩|⟨h1,h⟩:=af h
 ·obtain ⟨r01,g2,h⟩:=ae h
  simp(config:=cS)only[go_sem,eqT h1]
  refine ah (cX (by exact fun _ _ hr=>qG hr) (by refine ⟨fun _=>?_,fun _=>?_⟩ <;> simp only [go_sem]) (fun _=>rfl) rfl g2) ?_
  cases h
  simp(config:=cS)only[go_sem]
 ·cases h
  simp(config:=cS)only[go_sem,eqF h1]
def pd (a:List Int)(d:Int)(e:List GNode)(f:List GTie)(g b:Int)(c:List Int)(h:Int):St:=⟨[(2,.ptr 128 1 0 0),(3,.ptr 192 1 0 0),(37,.sl (ab eI a)),(38,.lit (.int .i64 d)),(39,.lit (.int .i64 h))],[(128,1,.var [.sl (ab GNode.encS e),.sl (ab GTie.enc f),.lit (.int .i64 g)]),(192,1,.var [.lit (.int .i64 b),.sl (ab eI a),.sl (ab eI c)])],2⟩
attribute [go_sem] pd
def pf (a:List Int)(d:Int)(e:List GNode)(f:List GTie)(g b:Int)(c:List Int)(h:Int):St:=⟨[(2,.ptr 128 1 0 0),(3,.ptr 192 1 0 0),(67,.sl (ab eI a)),(68,.lit (.int .i64 d)),(69,.lit (.int .i64 h))],[(128,1,.var [.sl (ab GNode.encS e),.sl (ab GTie.enc f),.lit (.int .i64 g)]),(192,1,.var [.lit (.int .i64 b),.sl (ab eI c),.sl (ab eI a)])],2⟩
attribute [go_sem] pf
attribute [go_sem] Tryz.ntmps188 Tryz.results188
attribute [go_sem] Tryz.ntmps95 Tryz.results95
def pO (g:List GTie)(e b:Int)(c d:List Int):(Int × (List Int))→St
 | (f,a)=>⟨[(3,.ptr 192 1 0 0),(5,.ref 383 1 0 a.length),(9,.sl (ab GTie.enc g)),(10,.lit (.int .i64 e)),(11,.lit (.int .i64 f))],[(192,1,.var [.lit (.int .i64 b),.sl (ab eI c),.sl (ab eI d)]),(383,1,.row true (ab eI a))],2⟩
attribute [go_sem] pO
attribute [go_sem] Tryz.ntmps167 Tryz.results167
def pg (b:Int)(d:List Int)(e:Int):(Int × (List Int))→St
 | (c,a)=>⟨[(1,.lit (.int .i64 b)),(5,.ref 383 1 0 a.length),(8,.sl (ab eI d)),(9,.lit (.int .i64 e)),(10,.lit (.int .i64 c))],[(383,1,.row true (ab eI a))],2⟩
attribute [go_sem] pg
attribute [go_sem] Tryz.ntmps248 Tryz.results248
attribute [go_sem] Tryz.ntmps290 Tryz.results290
def lO (a:List (List Int))(b:Int):(Int × Int)→St
 | (d,c)=>⟨[(0,.sl (ab (eLS eI) a)),(3,.lit (.int .i64 d)),(9,.sl (ab (eLS eI) a)),(10,.lit (.int .i64 b)),(11,.lit (.int .i64 c))],[],2⟩
attribute [go_sem] lO
def lP (b:List (List Int))(c:Int):(Nat × Int × (List Int))→St
 | (a,d,e)=>⟨[(6,.ref 1536 1 0 a),(25,.sl (ab (eLS eI) b)),(26,.lit (.int .i64 c)),(27,.lit (.int .i64 d))],[(1536,1,.row true (ab eI e))],2⟩
attribute [go_sem] lP
attribute [go_sem] Tryz.ntmps247 Tryz.results247
attribute [go_sem] Tryz.ntmps318 Tryz.results318
attribute [go_sem] Tryz.ntmps292 Tryz.results292
attribute [go_sem] Tryz.ntmps334 Tryz.results334
attribute [go_sem] Tryz.ntmps314 Tryz.results314
def gC (a:Bool)(c d e:Int):(Int × (List Int))→St
 | (f,b)=>⟨[(0,.ref 10000 0 0 b.length),(1,.lit (.int .i64 c)),(2,.lit (.int .i64 d)),(6,.lit (.int .i64 e)),(7,.lit (.int .i64 f))],[(10000,0,.row a (ab eI b))],2⟩
attribute [go_sem] gC
def gD (a:Bool)(c d:Int):(Int × (List Int))→St
 | (e,b)=>⟨[(0,.ref 10000 0 0 b.length),(1,.lit (.int .i64 c)),(2,.lit (.int .i64 d)),(6,.lit (.int .i64 e))],[(10000,0,.row a (ab eI b))],2⟩
attribute [go_sem] gD
@[go_sem] def hi308_6:DT:=.i2 0 (.i2 1 (.i2 2 (.i2 3 (.i2 4 (.i2 5 (.i2 6 (.i2 7 (.i2 8 (.i2 9 (.i2 10 (.i2 11 (.i2 12 (.i2 13 (.i2 14 (.i2 15 (.i2 16 (.i2 17 .nil)))))))))))))))))
@[go_sem] def hi308_4:DT:=.i2 0 (.i2 1 (.i2 2 (.i2 3 (.i2 4 (.i2 5 (.i2 6 (.i2 7 (.i2 8 (.i2 9 (.i2 10 (.i2 11 (.i2 12 (.i2 13 (.i2 14 .nil))))))))))))))
def zS:Hint where
 acts:=fun _=>[]
 draws:=fun
  | 4=>⟨hi308_4,[[],[],[0,1],[0,1,2],[0,1,2,3],[0,1,2,3],.range 6,.range 7,[0,1,2,3],[0,1,2,3],[0,1,2,3,9],[0,1,2,3,8,9,10],[0,1,2,3,8,9,10,11],.range 13,.range 14],.range 15⟩
  | 6=>⟨hi308_6,[[],[],[],[],[3],[],[],[6],[5,6,7],[5,6,7,8],[],[],[10,11],[10,11,12],[0,1,5,6,7,8,9,10,11,12,13],[0,1,5,6,7,8,9,10,11,12,13,14],.range 16,.range 17],[0,1,13,14,15,2,3,4,5,6,7,8,9,10,11,12,16,17]⟩
  | _=>⟨.nil,[],[]⟩
theorem Ko (i:Nat):zS.acts i=[]:=rfl
theorem Kq (i:Nat):zS.views i=none:=rfl
attribute [go_sem] Ko Kq Tryz.ntmps308 Tryz.results308
@[go_sem] theorem On:(zS.draws 4).order=hi308_4:=rfl
@[go_sem] theorem Oo:(zS.draws 6).order=hi308_6:=rfl
def iO (a:Bool)(c d e:Int)(b:List Int)(_:Unit):St:=⟨[(0,.ref 10000 0 0 b.length),(1,.lit (.int .i64 c)),(2,.lit (.int .i64 d)),(3,.lit (.int .i64 e)),(8,.lit (.bool true)),(9,.lit (.bool true))],[(10000,0,.row a (ab eI b))],2⟩
attribute [go_sem] iO
@[go_sem] def hi291_17:DT:=.i2 0 (.i2 1 (.i2 2 (.i2 3 (.i2 4 (.i2 5 (.i2 6 (.i2 7 (.i2 8 (.i2 9 (.i2 10 (.i2 11 (.i2 12 (.i2 13 (.i2 14 .nil))))))))))))))
def Dq:Hint where
 acts:=fun _=>[]
 draws:=fun
  | 17=>⟨hi291_17,[[],[0],[0,1],[0,1,2],[0,1,2],[0,1,2,4],.range 6,.range 7,[0,1,2],[0,1,2],[0,1,2,8,9],[0,1,2,8,9,10],.range 12,.range 13,.range 14],.range 15⟩
  | _=>⟨.nil,[],[]⟩
theorem Kr (i:Nat):Dq.acts i=[]:=rfl
theorem Ks (i:Nat):Dq.views i=none:=rfl
attribute [go_sem] Kr Ks Tryz.ntmps291 Tryz.results291
@[go_sem] theorem Nb:(Dq.draws 17).order=hi291_17:=rfl
attribute [go_sem] Tryz.ntmps249 Tryz.results249
def ph (g:Int)(h:List GNode)(i:List GTie)(j d:Int)(e f b:List Int):(Int × (List Int) × (List Int))→St
 | (k,a,c)=>⟨[(2,.ptr 128 1 0 0),(3,.ptr 192 1 0 0),(5,.ref 383 1 0 a.length),(6,.ref 447 1 0 c.length),(20,.ref 1280 1 0 b.length),(21,.lit (.int .i64 g)),(22,.lit (.int .i64 k))],[(128,1,.var [.sl (ab GNode.encS h),.sl (ab GTie.enc i),.lit (.int .i64 j)]),(192,1,.var [.lit (.int .i64 d),.sl (ab eI e),.sl (ab eI f)]),(383,1,.row true (ab eI a)),(447,1,.row true (ab eI c)),(1280,1,.row true (ab eI b))],2⟩
attribute [go_sem] ph
def pi (a b:List Int):(Int × (List (List Int)))→St
 | (d,c)=>⟨[(5,.ref 383 1 0 a.length),(6,.ref 447 1 0 b.length),(10,.ref 703 1 0 c.length),(11,.lit (.int .i64 d))],[(383,1,.tree (ab eI a)),(447,1,.row true (ab eI b)),(703,1,.row true (ab (eLO eI) c))],2⟩
attribute [go_sem] pi
@[go_sem] def hi171_7:DT:=.i2 0 (.i2 1 (.i2 2 (.i2 3 (.i2 4 (.i2 5 (.i2 6 (.i2 7 (.i2 8 (.i2 9 (.i2 10 (.i2 11 (.i2 12 (.i2 13 .nil)))))))))))))
def Dr:Hint where
 acts:=fun _=>[]
 draws:=fun
  | 7=>⟨hi171_7,[[],[0],[],[2],[],[4],[],[4,5,6],[4,5,6,7],[4,5,6,7,8],[2,3,4,5,6,7,8,9],[2,3,4,5,6,7,8,9,10],.range 12,.range 13],.range 14⟩
  | _=>⟨.nil,[],[]⟩
theorem Kt (i:Nat):Dr.acts i=[]:=rfl
theorem Ku (i:Nat):Dr.views i=none:=rfl
attribute [go_sem] Kt Ku Tryz.ntmps171 Tryz.results171
@[go_sem] theorem Oq:(Dr.draws 7).order=hi171_7:=rfl
def kh (c:List (List Int))(a:Nat)(b:List AV)(d e:Int):St:=⟨[(0,.sl (ab (eLS eI) c)),(1,.fn a b),(7,.lit (.int .i64 d)),(8,.lit (.int .i64 e))],[],2⟩
attribute [go_sem] kh
attribute [go_sem] Tryz.ntmps289 Tryz.results289
attribute [go_sem] Tryz.ntmps245 Tryz.results245
attribute [go_sem] Tryz.ntmps246 Tryz.results246
attribute [go_sem] Tryz.ntmps170 Tryz.results170
def qH (g:List Int)(h:Int)(i:List GNode)(j:List GTie)(k d:Int)(e f:List Int)(c:Int)(a:List Int):(Int × (List Int))→St
 | (l,b)=>⟨[(3,.ptr 192 1 0 0),(4,.ptr 256 1 0 0),(6,.ptr 384 1 0 0),(7,.ptr 448 1 0 0),(12,.sl (ab eI g)),(13,.lit (.int .i64 h)),(14,.lit (.int .i64 l))],[(192,1,.var [.sl (ab GNode.encS i),.sl (ab GTie.enc j),.lit (.int .i64 k)]),(256,1,.var [.lit (.int .i64 d),.sl (ab eI e),.sl (ab eI f)]),(384,1,.var [.lit (.int .i64 0),.lit (.slice none 0 0),.lit (.slice none 0 0)]),(448,1,.var [.lit (.int .i64 c),.ref 704 1 0 b.length,.ref 705 1 0 a.length]),(704,1,.row true (ab eI b)),(705,1,.row true (ab eI a))],2⟩
attribute [go_sem] qH
@[go_sem] def hi173_5:DT:=.i2 0 (.i2 1 (.i2 2 (.i2 3 (.i2 4 (.i2 5 (.i2 6 (.i2 7 (.i2 8 (.i2 9 (.i2 10 (.i2 11 .nil)))))))))))
def Ds:Hint where
 acts:=fun _=>[]
 draws:=fun
  | 5=>⟨hi173_5,[[],[0],[],[2],[],[2,3,4],[2,3,4,5],[2,3,4,5,6],[],[8],.range 10,.range 11],.range 12⟩
  | _=>⟨.nil,[],[]⟩
theorem Kv (i:Nat):Ds.acts i=[]:=rfl
theorem Kw (i:Nat):Ds.views i=none:=rfl
attribute [go_sem] Kv Kw Tryz.ntmps173 Tryz.results173
@[go_sem] theorem Ot:(Ds.draws 5).order=hi173_5:=rfl
attribute [go_sem] Tryz.ntmps335 Tryz.results335
attribute [go_sem] Tryz.ntmps319 Tryz.results319
def pP (b:List GNode)(c:List GTie)(d:Int):(Int × (List Int))→St
 | (i,a)=>⟨[(1,.ptr 64 1 0 0),(3,.ref 255 1 0 a.length),(4,.lit (.int .i64 i))],[(64,1,.var [.sl (ab GNode.encS b),.sl (ab GTie.enc c),.lit (.int .i64 d)]),(255,1,.row true (ab eI a))],2⟩
attribute [go_sem] pP
attribute [go_sem] Tryz.ntmps293 Tryz.results293
def ki (c:Bool)(a:Nat)(b:List AV):(Int × Int × (List Int))→St
 | (e,f,d)=>⟨[(0,.ref 10000 0 0 d.length),(1,.fn a b),(5,.lit (.int .i64 e)),(6,.lit (.int .i64 f))],[(10000,0,.row c (ab eI d))],2⟩
attribute [go_sem] ki
attribute [go_sem] Tryz.ntmps166 Tryz.results166
attribute [go_sem] Tryz.ntmps202 Tryz.results202
theorem AC {l:Int}{v:List Int}{res:Int}(h:ik l v=some res):ar Tryz.prog 202 [.lit (.int .i64 l),.sl (ab eI v)] [] (.lit (.int .i64 res)) []:=by
 refine am (ra:=[]) (md:=mdT) hT (hi:=hi00) Tryz.func202 rfl rfl (by decide +kernel) (by simp) ?_
 unfold ik at h
 obtain ⟨r01,g1,h⟩:=ae h
 simp(config:=cS)only[go_sem]
 refine ah (gB g1) ?_
 obtain ⟨x02,g2,h⟩:=ae h
 obtain ⟨h3,h4,h5⟩:=ao g2
 obtain ⟨h6,h⟩|⟨h6,h⟩:=af h
 ·cases h
  simp(config:=cS)only[go_sem,h3,h4,h5,eqT h6]
 ·cases h
  simp(config:=cS)only[go_sem,h3,h4,h5,eqF h6]
def iF (v a:List Int)(b:Int):(Int × Int)→St
 | (c,d)=>⟨[(1,.sl (ab eI v)),(5,.lit (.int .i64 c)),(16,.sl (ab eI a)),(17,.lit (.int .i64 b)),(18,.lit (.int .i64 d))],[],2⟩
attribute [go_sem] iF
attribute [go_sem] Tryz.ntmps129 Tryz.results129
theorem si {l v:List Int}{res:Int}(h:er l v=some res):ar Tryz.prog 129 [.sl (ab eI l),.sl (ab eI v)] [] (.lit (.int .i64 res)) []:=by
 refine am (ra:=[]) (md:=mdT) hT (hi:=hi00) Tryz.func129 rfl rfl (by decide +kernel) (by simp) ?_
 unfold er at h
 obtain ⟨r01,g1,h⟩:=ae h
 simp(config:=cS)only[go_sem]
 refine ah (iu g1) ?_
 obtain ⟨h2,h⟩|⟨h2,h⟩:=af h
 ·obtain ⟨r02,g3,h⟩:=ae h
  simp(config:=cS)only[go_sem,eZt h2]
  refine ah (vX g3) ?_
  obtain ⟨h4,h⟩|⟨h4,h⟩:=af h
  ·obtain ⟨q05,l5,h⟩:=ae h
   simp(config:=cS)only[go_sem,eZt h2,eZt h4]
   refine ay (m1:=.mk) (m2:=.mk) [.nf [1,5,16,17,18] []] (iF v l ((l.length:Nat):Int)) l5 ?_ ?_
   ·simp(config:=cS)only[go_sem,eZt h2,eZt h4]
   ·intro nb6 sb6 bb6 b6 gb6
    obtain ⟨out_1,v18_1⟩:=sb6
    unfold dc at b6
    try dsimp only at b6
    obtain ⟨h7,b6⟩|⟨h7,b6⟩:=af b6
    ·obtain ⟨x03,g8,b6⟩:=ae b6
     obtain ⟨h9,h10,h11⟩:=ao g8
     obtain ⟨r04,g12,b6⟩:=ae b6
     simp(config:=cS)only[go_sem,eZt h2,eZt h4,eqT h7,h9,h10,h11]
     refine ah (AC g12) ?_
     cases b6
     simp(config:=cS)only[go_sem,eZt h2,eZt h4,eqT h7,h9,h10,h11]
     refine az gb6 ?_
     simp(config:=cS)only[go_sem,eZt h2,eZt h4,eqT h7,h9,h10,h11]
    ·cases b6
     obtain rfl:=(ak gb6).symm
     try dsimp only at h
     cases h
     simp(config:=cS)only[go_sem,eZt h2,eZt h4,eqF h7]
  ·cases h
   simp(config:=cS)only[go_sem,eZt h2,eZf h4]
 ·cases h
  simp(config:=cS)only[go_sem,eZf h2]
@[go_sem] def hi261_1:DT:=.i2 0 (.i2 1 (.i2 2 (.i2 3 (.i2 4 (.i2 5 (.i2 6 (.i2 7 (.i2 8 (.i2 9 .nil)))))))))
def Dt:Hint where
 acts:=fun _=>[]
 draws:=fun
  | 1=>⟨hi261_1,[[],[0],[],[0,1,2],[0,1,2,3],.range 5,[],[6],.range 8,.range 9],.range 10⟩
  | _=>⟨.nil,[],[]⟩
theorem Kx (i:Nat):Dt.acts i=[]:=rfl
theorem Ky (i:Nat):Dt.views i=none:=rfl
attribute [go_sem] Kx Ky Tryz.ntmps261 Tryz.results261
@[go_sem] theorem Ou:(Dt.draws 1).order=hi261_1:=rfl
attribute [go_sem] Tryz.ntmps294 Tryz.results294
attribute [go_sem] Tryz.ntmps250 Tryz.results250
def nF (a:List Int):(Int × (List (List Int)))→St
 | (c,b)=>⟨[(5,.ref 640 1 0 a.length),(6,.ref 447 1 0 b.length),(7,.lit (.int .i64 c))],[(640,1,.row false (ab eI a)),(447,1,.row true (ab (eLO eI) b))],2⟩
attribute [go_sem] nF
attribute [go_sem] Tryz.ntmps174 Tryz.results174
def pj (h:List Int)(i:Int)(j:List GNode)(k:List GTie)(l e:Int)(f g:List Int)(d:Int)(b:List Int):(Int × (List Int) × (List Int))→St
 | (m,a,c)=>⟨[(3,.ptr 192 1 0 0),(4,.ptr 256 1 0 0),(6,.ptr 384 1 0 0),(8,.ptr 512 1 0 0),(9,.ref 639 1 0 a.length),(14,.sl (ab eI h)),(15,.lit (.int .i64 i)),(16,.lit (.int .i64 m))],[(192,1,.var [.sl (ab GNode.encS j),.sl (ab GTie.enc k),.lit (.int .i64 l)]),(256,1,.var [.lit (.int .i64 e),.sl (ab eI f),.sl (ab eI g)]),(384,1,.var [.lit (.int .i64 0),.lit (.slice none 0 0),.lit (.slice none 0 0)]),(512,1,.var [.lit (.int .i64 d),.ref 832 1 0 c.length,.ref 833 1 0 b.length]),(832,1,.row true (ab eI c)),(833,1,.row true (ab eI b)),(639,1,.row true (ab eI a))],2⟩
attribute [go_sem] pj
attribute [go_sem] Tryz.ntmps175 Tryz.results175
def oh (a e:List Int)(f d:Int)(b:List Int):(Int × (List Int))→St
 | (g,c)=>⟨[(2,.sl (ab eI a)),(6,.ptr 384 1 0 0),(7,.ptr 448 1 0 0),(12,.sl (ab eI e)),(13,.lit (.int .i64 f)),(14,.lit (.int .i64 g))],[(384,1,.var [.lit (.int .i64 0),.lit (.slice none 0 0),.lit (.slice none 0 0)]),(448,1,.var [.lit (.int .i64 d),.ref 704 1 0 b.length,.ref 705 1 0 c.length]),(704,1,.row true (ab eI b)),(705,1,.row true (ab eI c))],2⟩
attribute [go_sem] oh
@[go_sem] def hi177_5:DT:=.i2 0 (.i2 1 (.i2 2 (.i2 3 (.i2 4 (.i2 5 (.i2 6 (.i2 7 (.i2 8 (.i2 9 .nil)))))))))
def Du:Hint where
 acts:=fun _=>[]
 draws:=fun
  | 5=>⟨hi177_5,[[],[0],[],[2],[],[],[4,5],[4,5,6],.range 8,.range 9],.range 10⟩
  | _=>⟨.nil,[],[]⟩
theorem Kz (i:Nat):Du.acts i=[]:=rfl
theorem KA (i:Nat):Du.views i=none:=rfl
attribute [go_sem] Kz KA Tryz.ntmps177 Tryz.results177
@[go_sem] theorem Ov:(Du.draws 5).order=hi177_5:=rfl
def qI (g:List Int)(h e:Int)(b c d:List Int):(Int × (List Int) × (List Int))→St
 | (i,f,a)=>⟨[(6,.ptr 384 1 0 0),(9,.ptr 576 1 0 0),(10,.ref 3458 1 0 d.length),(11,.ref 767 1 0 f.length),(12,.ref 831 1 0 a.length),(58,.sl (ab eI g)),(59,.lit (.int .i64 h)),(60,.lit (.int .i64 i))],[(384,1,.var [.lit (.int .i64 0),.lit (.slice none 0 0),.lit (.slice none 0 0)]),(576,1,.var [.lit (.int .i64 e),.ref 3456 1 0 b.length,.ref 3457 1 0 c.length]),(3456,1,.row true (ab eI b)),(3457,1,.row true (ab eI c)),(3458,1,.row true (ab eI d)),(767,1,.row true (ab eI f)),(831,1,.row true (ab eI a))],2⟩
attribute [go_sem] qI
@[go_sem] def hi88_4:DT:=.i2 0 (.i2 1 (.i1 3 (.i1 4 (.i0 2 [3,4] (.i2 5 (.i2 6 .nil))))))
@[go_sem] def hi88_1:DT:=.i2 0 (.i2 1 (.i2 2 (.i2 3 (.i2 4 (.i2 5 (.i2 6 (.i2 7 (.i1 9 (.i1 10 (.i0 8 [9,10] (.i2 11 (.i2 12 (.i2 13 (.i2 14 (.i2 15 (.i2 16 (.i2 17 (.i2 18 (.i2 19 .nil)))))))))))))))))))
def hi88:Hint where
 acts:=fun _=>[]
 draws:=fun
  | 1=>⟨hi88_1,[[],[0],[],[2],[0,1,2,3],.range 5,.range 6,.range 6,.range 8,.range 6,[0,1,2,3,4,5,9],.range 11,.range 12,.range 13,.range 14,.range 15,.range 16,.range 17,.range 18,.range 19],.range 20⟩
  | 4=>⟨hi88_4,[[],[],[0,1],[],[3],.range 5,.range 6],.range 7⟩
  | _=>⟨.nil,[],[]⟩
theorem Mp (i:Nat):hi88.acts i=[]:=rfl
theorem Mq (i:Nat):hi88.views i=none:=rfl
attribute [go_sem] Mp Mq Tryz.ntmps88 Tryz.results88
@[go_sem] theorem Pi:(hi88.draws 1).order=hi88_1:=rfl
@[go_sem] theorem Pj:(hi88.draws 4).order=hi88_4:=rfl
def nG (d:List aw)(e:Int)(f:List GNode)(g:List GTie)(h:Int):(Int × Int × (List Int) × (List Int))→St
 | (i,c,a,b)=>⟨[(2,.ptr 128 1 0 0),(4,.ptr 256 1 0 0),(6,.ptr 384 1 0 0),(17,.sl (ab aw.encS d)),(18,.lit (.int .i64 e)),(19,.lit (.int .i64 i))],[(128,1,.var [.sl (ab GNode.encS f),.sl (ab GTie.enc g),.lit (.int .i64 h)]),(256,1,.var [.lit (.int .i64 0),.lit (.slice none 0 0),.lit (.slice none 0 0)]),(384,1,.var [.lit (.int .i64 c),.ref 1024 1 0 a.length,.ref 1025 1 0 b.length]),(1024,1,.row true (ab eI a)),(1025,1,.row true (ab eI b))],2⟩
attribute [go_sem] nG
attribute [go_sem] Tryz.ntmps28 Tryz.results28
attribute [go_sem] Tryz.ntmps30 Tryz.results30
attribute [go_sem] Tryz.ntmps75 Tryz.results75
@[go_sem] def hi168_1:DT:=.i1 0 (.i1 1 (.i1 2 (.i1 3 (.i1 4 (.i1 5 (.i2 6 (.i1 7 (.i1 8 (.i1 9 (.i1 10 (.i1 11 (.i2 12 (.i1 13 (.i1 14 (.i2 15 (.i2 16 (.i0 17 [0,1,2,3,4,5,7,8,9,10,11,13,14] (.i2 18 (.i2 19 (.i2 20 (.i2 21 .nil)))))))))))))))))))))
def Dv:Hint where
 acts:=fun _=>[]
 draws:=fun
  | 1=>⟨hi168_1,[[],[0],[],[2],[],[4],[],[4,5,6],[4,5,6,7],[4,5,6,7,8],[2,3,4,5,6,7,8,9],[2,3,4,5,6,7,8,9,10],.range 12,[],[13],[],[],[15,16],[13,14,15,16,17],[13,14,15,16,17,18],.range 20,.range 21],.range 22⟩
  | _=>⟨.nil,[],[]⟩
theorem KB (i:Nat):Dv.acts i=[]:=rfl
theorem KD (i:Nat):Dv.views i=none:=rfl
attribute [go_sem] KB KD Tryz.ntmps168 Tryz.results168
@[go_sem] theorem Ow:(Dv.draws 1).order=hi168_1:=rfl
attribute [go_sem] Tryz.ntmps87 Tryz.results87
attribute [go_sem] Tryz.ntmps240 Tryz.results240
@[go_sem] def hi260_1:DT:=.i2 0 (.i2 1 (.i2 2 (.i2 3 (.i2 4 (.i2 5 (.i2 6 (.i2 7 (.i2 8 (.i2 9 (.i2 10 (.i2 11 (.i2 12 (.i2 13 .nil)))))))))))))
def Dw:Hint where
 acts:=fun _=>[]
 draws:=fun
  | 1=>⟨hi260_1,[[],[0],[],[2],[0,1,2,3],.range 5,[],[6],[],[8],[6,7,8,9],[6,7,8,9,10],.range 6,.range 13],[0,1,2,3,4,5,7,8,9,10,11,12,6,13]⟩
  | _=>⟨.nil,[],[]⟩
theorem KE (i:Nat):Dw.acts i=[]:=rfl
theorem KF (i:Nat):Dw.views i=none:=rfl
attribute [go_sem] KE KF Tryz.ntmps260 Tryz.results260
@[go_sem] theorem Ox:(Dw.draws 1).order=hi260_1:=rfl
attribute [go_sem] Tryz.ntmps259 Tryz.results259
def pk (c:List Int)(h:Int)(d:List GNode)(e:List GTie)(f a:Int)(b:List Int)(g:Int):St:=⟨[(2,.ptr 128 1 0 0),(3,.ptr 192 1 0 0),(8,.sl (ab eI c)),(9,.lit (.int .i64 h)),(10,.lit (.int .i64 g))],[(128,1,.var [.sl (ab GNode.encS d),.sl (ab GTie.enc e),.lit (.int .i64 f)]),(192,1,.var [.lit (.int .i64 a),.sl (ab eI c),.sl (ab eI b)])],2⟩
attribute [go_sem] pk
attribute [go_sem] Tryz.ntmps190 Tryz.results190
attribute [go_sem] Tryz.ntmps189 Tryz.results189
attribute [go_sem] Tryz.ntmps96 Tryz.results96
def tY (a:List Int)(e c:Int)(d:List Int):(Int × (List Int))→St
 | (f,b)=>⟨[(1,.ptr 64 1 0 0),(3,.ref 704 1 0 b.length),(13,.sl (ab eI a)),(14,.lit (.int .i64 e)),(15,.lit (.int .i64 f))],[(64,1,.var [.lit (.int .i64 c),.sl (ab eI a),.sl (ab eI d)]),(704,1,.row true (ab (eK .u8) b))],2⟩
attribute [go_sem] tY
def tZ (b:List Int)(c:Int):(Int × (List Int))→St
 | (d,a)=>⟨[(3,.ref 704 1 0 a.length),(27,.sl (ab eI b)),(28,.lit (.int .i64 c)),(29,.lit (.int .i64 d))],[(704,1,.row true (ab (eK .u8) a))],2⟩
attribute [go_sem] tZ
attribute [go_sem] Tryz.ntmps191 Tryz.results191
def kZ (a:List Int)(b c:Int):St:=⟨[(0,.sl (ab eI a)),(9,.sl (ab eI a)),(10,.lit (.int .i64 b)),(11,.lit (.int .i64 c))],[],2⟩
attribute [go_sem] kZ
def la (b:List Int)(n d:Int)(c:List (List Int)):(Int × (List Int))→St
 | (e,a)=>⟨[(0,.sl (ab eI b)),(5,.ref 383 1 0 c.length),(6,.lit (.int .i64 n)),(7,.ref 511 1 0 a.length),(44,.lit (.int .i64 d)),(45,.lit (.int .i64 e))],[(383,1,.row true (ab (eLO eI) c)),(511,1,.row true (ab eI a))],2⟩
attribute [go_sem] la
def lb (a:List Int):(Int × (List (List Int)))→St
 | (n,b)=>⟨[(0,.sl (ab eI a)),(5,.ref 383 1 0 b.length),(6,.lit (.int .i64 n))],[(383,1,.row true (ab (eLO eI) b))],2⟩
attribute [go_sem] lb
attribute [go_sem] Tryz.ntmps288 Tryz.results288
def mj (g d:Int)(a b c:List Int)(f:List (List Int))(h:List GNode)(i:List GTie)(j:Int):(Int × (List (ByteArray × Bool)))→St
 | (k,e)=>⟨[(0,.ptr 10000 0 0 0),(7,.ptr 448 1 0 0),(8,.ref 1154 1 0 c.length),(22,.ref 1408 1 0 f.length),(23,.lit (.int .i64 g)),(24,.lit (.int .i64 k))],[(10000,0,.var [.sl (ab GNode.encS h),.sl (ab GTie.enc i),.lit (.int .i64 j),.mp 10001 0]),(10001,0,.map (eM e)),(448,1,.var [.lit (.int .i64 d),.ref 1152 1 0 a.length,.ref 1153 1 0 b.length]),(1152,1,.row true (ab eI a)),(1153,1,.row true (ab eI b)),(1154,1,.row true (ab eI c)),(1408,1,.tree (ab (eLS eI) f))],2⟩
attribute [go_sem] mj
@[go_sem] def hi242_1:DT:=.i2 0 (.i1 1 (.i1 2 (.i1 3 (.i1 4 (.i2 5 (.fork (.i2 6 (.i2 7 (.i2 8 (.i2 9 (.i0 10 [1,2,3,4] (.i2 11 (.i2 12 .nil))))))) (.i0 10 [1,2,3,4] (.i2 6 (.i2 7 (.i2 8 (.i2 9 (.i2 11 (.i2 12 .nil)))))))))))))
def Dx:Hint where
 acts:=fun _=>[]
 draws:=fun
  | 1=>⟨hi242_1,[[],[0],[0,1],[0,1,2],[],[],.range 6,.range 7,.range 8,.range 8,[],[0,1,2,3,4,5,6,7,8,10],.range 12],[0,1,2,3,4,5,6,7,8,11,9,10,12]⟩
  | _=>⟨.nil,[],[]⟩
@[go_sem] theorem Pk (i:Nat):Dx.acts i=[]:=rfl
theorem KG (i:Nat):Dx.views i=none:=rfl
attribute [go_sem] KG Tryz.ntmps242 Tryz.results242
@[go_sem] theorem Oy:(Dx.draws 1).order=hi242_1:=rfl
def mA (f c:Int)(d e:List Int)(b:List (List Int))(g:List GNode)(h:List GTie)(i:Int):(Int × (List (ByteArray × Bool)))→St
 | (j,a)=>⟨[(0,.ptr 10000 0 0 0),(3,.ptr 192 1 0 0),(13,.ref 832 1 0 b.length),(14,.lit (.int .i64 f)),(15,.lit (.int .i64 j))],[(10000,0,.var [.sl (ab GNode.encS g),.sl (ab GTie.enc h),.lit (.int .i64 i),.mp 10001 0]),(10001,0,.map (eM a)),(192,1,.var [.lit (.int .i64 c),.sl (ab eI d),.sl (ab eI e)]),(832,1,.tree (ab (eLS eI) b))],2⟩
attribute [go_sem] mA
@[go_sem] def hi163_1:DT:=.i2 0 (.i2 1 (.i2 2 (.i2 3 (.i2 4 (.i2 7 (.i2 5 (.i2 6 .nil)))))))
def Dy:Hint where
 acts:=fun _=>[]
 draws:=fun
  | 1=>⟨hi163_1,[[],[0],[0,1],[0,1,2],[],.range 5,.range 6,[]],.range 8⟩
  | _=>⟨.nil,[],[]⟩
@[go_sem] theorem Pl (i:Nat):Dy.acts i=[]:=rfl
theorem KH (i:Nat):Dy.views i=none:=rfl
attribute [go_sem] KH Tryz.ntmps163 Tryz.results163
@[go_sem] theorem Oz:(Dy.draws 1).order=hi163_1:=rfl
def nH (k:ByteArray)(f c:Int)(d e:List Int)(b:List (List Int))(g:List GNode)(h:List GTie)(i:Int):(Int × (List (ByteArray × Bool)))→St
 | (j,a)=>⟨[(0,.ptr 10000 0 0 0),(3,.ptr 192 1 0 0),(5,.lit (.string k)),(8,.lit (.bool true)),(45,.ref 2880 1 0 b.length),(46,.lit (.int .i64 f)),(47,.lit (.int .i64 j))],[(10000,0,.var [.sl (ab GNode.encS g),.sl (ab GTie.enc h),.lit (.int .i64 i),.mp 10001 0]),(10001,0,.map (eM a)),(192,1,.var [.lit (.int .i64 c),.sl (ab eI d),.sl (ab eI e)]),(2880,1,.tree (ab (eLS eI) b))],2⟩
attribute [go_sem] nH
@[go_sem] def hi97_13:DT:=.i2 0 (.i2 1 (.i2 2 (.i2 3 (.i2 4 (.i2 5 (.i2 6 (.i2 7 (.i2 8 (.i2 9 (.i2 10 (.i2 11 (.i2 12 (.i2 13 .nil)))))))))))))
@[go_sem] def hi97_10:DT:=.i2 0 (.i2 1 (.i2 2 (.i2 3 (.i2 4 (.i2 7 (.i2 5 (.i2 6 .nil)))))))
@[go_sem] def hi97_3:DT:=.i2 0 (.i2 1 (.i2 2 (.i2 3 (.i2 4 (.i2 5 (.i2 6 .nil))))))
@[go_sem] def hi97_1:DT:=.i2 0 (.i2 1 (.i2 2 (.i2 3 (.i2 4 (.i2 5 (.i2 6 .nil))))))
def hi97:Hint where
 acts:=fun _=>[]
 draws:=fun
  | 1=>⟨hi97_1,[[],[0],[0,1],[0,1,2],[],.range 5,.range 6],.range 7⟩
  | 3=>⟨hi97_3,[[],[0],[0,1],[0,1,2],[],.range 5,.range 6],.range 7⟩
  | 10=>⟨hi97_10,[[],[0],[0,1],[0,1,2],[],.range 5,.range 6,[]],.range 8⟩
  | 13=>⟨hi97_13,[[],[],[1],[1,2],[1,2,3],[],[],[1,2,3,4,5,6],.range 8,.range 9,.range 10,.range 10,.range 11,.range 13],[0,1,2,3,4,5,6,7,8,9,10,12,11,13]⟩
  | _=>⟨.nil,[],[]⟩
@[go_sem] theorem PT (i:Nat):hi97.acts i=[]:=rfl
theorem Mr (i:Nat):hi97.views i=none:=rfl
attribute [go_sem] Mr Tryz.ntmps97 Tryz.results97
@[go_sem] theorem Pm:(hi97.draws 1).order=hi97_1:=rfl
@[go_sem] theorem Pn:(hi97.draws 3).order=hi97_3:=rfl
@[go_sem] theorem OA:(hi97.draws 10).order=hi97_10:=rfl
@[go_sem] theorem OB:(hi97.draws 13).order=hi97_13:=rfl
attribute [go_sem] Tryz.ntmps244 Tryz.results244
def eP (h:Bool)(j:Int)(i:List (List Int))(a:List GNode)(b:List GTie)(c d:Int)(e f:List Int):(Int × (List (ByteArray × Bool)))→St
 | (k,g)=>⟨[(0,.ref 10000 0 0 i.length),(1,.fn 244 [.ptr 10001 0 0 0,.ptr 10004 0 0 0]),(7,.lit (.int .i64 j)),(8,.lit (.int .i64 k))],[(10000,0,.row h (ab (eLS eI) i)),(10001,0,.var [.ptr 10002 0 0 0]),(10002,0,.var [.sl (ab GNode.encS a),.sl (ab GTie.enc b),.lit (.int .i64 c),.mp 10003 0]),(10003,0,.map (eM g)),(10004,0,.var [.lit (.int .i64 d),.sl (ab eI e),.sl (ab eI f)])],2⟩
attribute [go_sem] eP
attribute [go_sem] Tryz.ntmps289 Tryz.results289
def eF (i:Bool)(h:Nat)(a:List GNode)(b:List GTie)(c d:Int)(e f:List Int):(Int × Int × (List (List Int)) × (List (ByteArray × Bool)))→St
 | (j,k,l,g)=>⟨[(0,.ref 10000 0 0 h),(1,.fn 244 [.ptr 10001 0 0 0,.ptr 10004 0 0 0]),(5,.lit (.int .i64 j)),(6,.lit (.int .i64 k))],[(10000,0,.row i (ab (eLS eI) l)),(10001,0,.var [.ptr 10002 0 0 0]),(10002,0,.var [.sl (ab GNode.encS a),.sl (ab GTie.enc b),.lit (.int .i64 c),.mp 10003 0]),(10003,0,.map (eM g)),(10004,0,.var [.lit (.int .i64 d),.sl (ab eI e),.sl (ab eI f)])],2⟩
attribute [go_sem] eF
def bQ:Hint where
 acts:=fun i=>match i with | 0=>[.frIn 10000] | _=>[]
 draws:=fun
  | _=>⟨.nil,[],[]⟩
@[go_sem] theorem KI:bQ.acts 0=[.frIn 10000]:=rfl
@[go_sem] theorem KJ:bQ.acts 1=[]:=rfl
@[go_sem] theorem KK:bQ.acts 2=[]:=rfl
@[go_sem] theorem KL:bQ.acts 3=[]:=rfl
@[go_sem] theorem KM:bQ.acts 4=[]:=rfl
@[go_sem] theorem KN:bQ.acts 5=[]:=rfl
@[go_sem] theorem KO:bQ.acts 7=[]:=rfl
@[go_sem] theorem KQ:bQ.acts 8=[]:=rfl
@[go_sem] theorem KR:bQ.acts 9=[]:=rfl
@[go_sem] theorem Iq:bQ.acts 10=[]:=rfl
@[go_sem] theorem KS:bQ.acts 6=[]:=rfl
@[go_sem] theorem Ir:bQ.acts 11=[]:=rfl
@[go_sem] theorem Is:bQ.acts 12=[]:=rfl
theorem BE (i:Nat):bQ.views i=none:=rfl
attribute [go_sem] BE Tryz.ntmps243 Tryz.results243
@[go_sem] def hi165_1:DT:=.i2 0 (.i2 1 (.i2 2 (.i2 3 (.i2 4 (.i2 6 (.i2 5 (.i2 7 (.i2 8 .nil))))))))
def Dz:Hint where
 acts:=fun _=>[]
 draws:=fun
  | 1=>⟨hi165_1,[[],[0],[0,1],[0,1,2],[],.range 5,[],.range 7,.range 8],.range 9⟩
  | _=>⟨.nil,[],[]⟩
theorem KT (i:Nat):Dz.acts i=[]:=rfl
theorem KU (i:Nat):Dz.views i=none:=rfl
attribute [go_sem] KT KU Tryz.ntmps165 Tryz.results165
@[go_sem] theorem OC:(Dz.draws 1).order=hi165_1:=rfl
attribute [go_sem] Tryz.ntmps164 Tryz.results164
attribute [go_sem] Tryz.ntmps162 Tryz.results162
def ol (a d:List Int)(e:Int):(Int × (List Int))→St
 | (c,b)=>⟨[(1,.sl (ab eI a)),(5,.ref 383 1 0 b.length),(8,.sl (ab eI d)),(9,.lit (.int .i64 e)),(10,.lit (.int .i64 c))],[(383,1,.row true (ab eI b))],2⟩
attribute [go_sem] ol
attribute [go_sem] Tryz.ntmps241 Tryz.results241
def gk (s h l:List Int)(t m n:Int)(o:Bool)(p:Int)(q r:List Int)(i:Int)(a:List GNode)(b:List GTie)(c d:List Int)(e:List aw)(f g j:List Int):(Int × (List Int))→St
 | (u,k)=>⟨[(1,.sl (ab eI s)),(2,.sl (ab eI h)),(10,.ptr 640 1 0 0),(13,.ptr 832 1 0 0),(15,.ptr 960 1 0 0),(17,.sl (ab eI l)),(19,.ptr 1216 1 0 0),(20,.ref 5506 1 0 j.length),(21,.ref 1407 1 0 k.length),(89,.ref 5506 1 0 j.length),(90,.lit (.int .i64 t)),(91,.lit (.int .i64 u))],[(640,1,.var [.lit (.slice none 0 0),.lit (.slice none 0 0),.lit (.int .i64 0),.lit (.int .i64 0),.lit (.slice none 0 0),.lit (.slice none 0 0),.lit (.bool false),.lit (.slice none 0 0)]),(832,1,.var [.ref 1600 1 0 a.length,.ref 1601 1 0 b.length,.lit (.int .i64 m),.lit (.int .i64 n),.ref 1602 1 0 c.length,.ref 1603 1 0 d.length,.lit (.bool o),.ref 1604 1 0 e.length]),(1600,1,.row true (ab GNode.encO a)),(1601,1,.row true (ab GTie.enc b)),(1602,1,.row true (ab eI c)),(1603,1,.row true (ab eI d)),(1604,1,.row true (ab aw.encO e)),(960,1,.var [.lit (.int .i64 p),.sl (ab eI q),.sl (ab eI r)]),(1216,1,.var [.lit (.int .i64 i),.ref 5504 1 0 f.length,.ref 5505 1 0 g.length]),(5504,1,.row true (ab eI f)),(5505,1,.row true (ab eI g)),(5506,1,.row true (ab eI j)),(1407,1,.row true (ab eI k))],2⟩
attribute [go_sem] gk
@[go_sem] def hi161_s162_22:DT:=.i1 0 (.i2 1 (.i0 2 [0] (.i2 3 (.i2 4 (.i2 5 .nil)))))
@[go_sem] def hi161_s162_21:DT:=.i1 0 (.i1 1 (.i1 2 (.i1 3 (.i2 4 (.i2 6 (.i2 8 (.i2 9 (.i0 5 [0,1,2,3] (.i0 7 [0,1,2,3] (.i0 10 [0,1,2,3] (.i2 11 (.i0 12 [0,1] (.i2 13 (.i2 14 (.i2 15 .nil)))))))))))))))
@[go_sem] def hi161_s162_10:DT:=.i2 0 (.i2 1 (.i1 3 (.i0 2 [3] (.i2 4 (.i2 5 (.i2 6 (.i2 7 (.i2 8 (.i2 9 .nil)))))))))
@[go_sem] def hi161_s162_4:DT:=.i1 0 (.i1 1 (.i1 2 (.i1 3 (.fork (.i0 4 [0,1,2,3] (.i0 5 [0,1,2,3] (.i0 6 [2,3] (.i2 7 .nil)))) (.i0 5 [0,1,2,3] (.i0 4 [0,1,2,3] (.i0 6 [2,3] (.i2 7 .nil))))))))
def iw:Hint where
 acts:=fun _=>[]
 draws:=fun
  | 4=>⟨hi161_s162_4,[[],[0],[],[2],[],[],[0,1,4,5],.range 7],[0,1,5,6,2,3,4,7]⟩
  | 10=>⟨hi161_s162_10,[[],[],[1],[],[0,1,2,3],.range 5,.range 6,.range 6,.range 7,.range 9],[0,1,2,3,4,5,6,8,7,9]⟩
  | 21=>⟨hi161_s162_21,[[],[0],[],[2],[],[4],[],[4,5,6],[],[],[4,5,6,7,8,9],[2,3,4,5,6,7,8,9,10],[2,3,4,5,6,7,8,9,10,11],.range 13,.range 14,.range 15],.range 16⟩
  | 22=>⟨hi161_s162_22,[[],[],[1],[0,1,2],[0,1,2,3],.range 5],.range 6⟩
  | _=>⟨.nil,[],[]⟩
theorem BF (i:Nat):iw.acts i=[]:=rfl
theorem BG (i:Nat):iw.views i=none:=rfl
attribute [go_sem] BF BG Tryz.ntmps161 Tryz.results161
@[go_sem] theorem KV:(iw.draws 4).order=hi161_s162_4:=rfl
@[go_sem] theorem It:(iw.draws 10).order=hi161_s162_10:=rfl
@[go_sem] theorem Iu:(iw.draws 21).order=hi161_s162_21:=rfl
@[go_sem] theorem Iv:(iw.draws 22).order=hi161_s162_22:=rfl
attribute [go_sem] Tryz.ntmps86 Tryz.results86
end Go.Proofs.Qa
