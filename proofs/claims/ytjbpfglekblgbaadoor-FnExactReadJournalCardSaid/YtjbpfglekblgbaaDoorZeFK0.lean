/- Functions. -/
import Derived.Test.YtjbpfglekblgbaaDoorZeX
import Derived.Test.YtjbpfglekblgbaaDoorZe37
set_option linter.all false
set_option maxRecDepth 100000
set_option maxHeartbeats 4000000
namespace Go.Proofs.Qe
open Go
attribute [go_sem] Tryd.ntmps39 Tryd.results39
attribute [go_sem] Tryd.ntmps9 Tryd.results9
def iZ (a:List Int):(Int × (List Int))→St
 | (i,b)=>⟨[(0,.sl (ab eI a)),(3,.ref 448 1 0 b.length),(4,.lit (.int .i64 i))],[(448,1,.row true (ab eI b))],2⟩
attribute [go_sem] iZ
attribute [go_sem] Tryd.ntmps42 Tryd.results42
attribute [go_sem] Tryd.ntmps11 Tryd.results11
def dY  : (Int × ByteArray)→St
 | (n,s)=>⟨[(0,.lit (.int .i64 n)),(3,.lit (.string s))],[],2⟩
attribute [go_sem] dY
@[go_sem] def hi40_4:DT:=.i2 0 (.i2 1 (.i2 3 (.i2 4 (.i2 5 (.i1 6 (.fork (.i0 2 [6] (.i2 7 (.i1 8 (.i2 9 (.i2 10 .nil))))) (.i2 7 (.i1 8 (.i0 2 [6,8] (.i2 9 (.i2 10 .nil)))))))))))
def hi40:Hint where
 acts:=fun _=>[]
 draws:=fun
  | 4=>⟨hi40_4,[[],[0],[0,1],[],[3],[3,4],[3,4,5],[3,4,5,6],[3,4,5,6,7],.range 9,.range 10],.range 11⟩
  | _=>⟨.nil,[],[]⟩
theorem xl (i:Nat):hi40.acts i=[]:=rfl
theorem xm (i:Nat):hi40.views i=none:=rfl
attribute [go_sem] xl xm Tryd.ntmps40 Tryd.results40
@[go_sem] theorem xP:(hi40.draws 4).order=hi40_4:=rfl
theorem jv {rec:Int→Option ByteArray}(hrec:∀ {n:Int} {res:ByteArray},rec n=some res→aI Tryd.prog 40 [.lit (.int .i64 n)] [] (.lit (.string res)) []){n:Int}{res:ByteArray}(h:aX rec n=some res):aI Tryd.prog 40 [.lit (.int .i64 n)] [] (.lit (.string res)) []:=by
 refine aR (ra:=[]) (md:=mdT) hT (hi:=hi40) Tryd.func40 rfl rfl (by decide +kernel) (by simp) ?_
 unfold aX at h
 obtain ⟨h1,h⟩|⟨h1,h⟩:=al h
 ·obtain ⟨h2,h⟩|⟨h2,h⟩:=al h
  ·obtain ⟨h3,h⟩:=aw h
   cases h
   simp(config:=cS)only[go_sem,eqT h1,eqT h2,eqT h3]
  ·try simp(config:=cS)only[go_sem,eqT h1,eqF h2]
   refine vL ?_ ?_
   ·obtain ⟨r01,g4,h⟩:=ag h
    simp(config:=cS)only[go_sem]
    refine ar (hrec g4) ?_
    obtain ⟨h5,h⟩:=aw h
    cases h
    simp(config:=cS)only[go_sem,eqT h5]
   ·obtain ⟨r02,g6,h⟩:=ag h
    simp(config:=cS)only[go_sem]
    refine ar (hrec g6) ?_
    obtain ⟨h7,h⟩:=aw h
    cases h
    simp(config:=cS)only[go_sem,eqT h7]
 ·obtain ⟨q03,l8,h⟩:=ag h
  simp(config:=cS)only[go_sem,eqF h1]
  refine aJ (m1:=.mk) (m2:=.mk) [.nf [0,3] []] (dY) l8 ?_ ?_
  ·simp(config:=cS)only[go_sem]
  ·intro nb9 sb9 bb9 b9 gb9
   obtain ⟨n_1,s_1⟩:=sb9
   unfold bV at b9
   try dsimp only at b9
   obtain ⟨h10,b9⟩|⟨h10,b9⟩:=al b9
   ·obtain ⟨h11,b9⟩:=aw b9
    cases b9
    simp(config:=cS)only[go_sem,eqT h10,eqT h11]
    refine bc gb9 ?_
    simp(config:=cS)only[go_sem]
   ·cases b9
    obtain rfl:=(az gb9).symm
    try dsimp only at h
    obtain ⟨h13,h⟩:=aw h
    cases h
    simp(config:=cS)only[go_sem,eqF h10,eqT h13]
theorem ik (fu:Nat):∀ {n:Int} {res:ByteArray},bd fu n=some res→aI Tryd.prog 40 [.lit (.int .i64 n)] [] (.lit (.string res)) []:=by
 induction fu with
 | zero=>intro _ _ h;cases h
 | succ fu ih=>intro _ _ h;exact jv (@ih) h
theorem ek {n:Int}{res:ByteArray}(h:bz n=some res):aI Tryd.prog 40 [.lit (.int .i64 n)] [] (.lit (.string res)) []:=ik 40 h
def km (a:ByteArray)(c:List ByteArray)(d:Int):(ByteArray × Int)→St
 | (s,b)=>⟨[(1,.lit (.string a)),(5,.lit (.string s)),(8,.sl (ab eS c)),(9,.lit (.int .i64 d)),(10,.lit (.int .i64 b))],[],2⟩
attribute [go_sem] km
attribute [go_sem] Tryd.ntmps75 Tryd.results75
def iG (b:List Int)(c:Int):(Int × (List ByteArray))→St
 | (d,a)=>⟨[(3,.ref 384 1 0 a.length),(7,.sl (ab eI b)),(8,.lit (.int .i64 c)),(9,.lit (.int .i64 d))],[(384,1,.row true (ab eS a))],2⟩
attribute [go_sem] iG
attribute [go_sem] Tryd.ntmps41 Tryd.results41
@[go_sem] def hi10_1:DT:=.i2 0 (.i2 1 (.i1 4 (.i1 5 (.i1 9 (.i1 10 (.i1 14 (.i1 15 (.i0 2 [4,5,9,10,14,15] (.i2 3 (.i0 6 [9,10,14,15] (.i2 7 (.i2 8 (.i0 11 [14,15] (.i2 12 (.i2 13 (.i2 16 (.i2 17 (.i2 18 .nil))))))))))))))))))
def hi10:Hint where
 acts:=fun _=>[]
 draws:=fun
  | 1=>⟨hi10_1,[[],[0],[0,1],[0,1,2],[],[4],[0,1,2,4,5],.range 7,.range 8,[],[9],[0,1,2,4,5,6,9,10],.range 12,.range 13,[],[14],[0,1,2,4,5,6,9,10,11,14,15],.range 17,.range 18],.range 19⟩
  | _=>⟨.nil,[],[]⟩
theorem xn (i:Nat):hi10.acts i=[]:=rfl
theorem xo (i:Nat):hi10.views i=none:=rfl
attribute [go_sem] xn xo Tryd.ntmps10 Tryd.results10
@[go_sem] theorem xQ:(hi10.draws 1).order=hi10_1:=rfl
attribute [go_sem] Tryd.ntmps44 Tryd.results44
attribute [go_sem] Tryd.ntmps43 Tryd.results43
attribute [go_sem] Tryd.ntmps78 Tryd.results78
def il (b:List Int)(c:Int):(Int × (List ByteArray))→St
 | (d,a)=>⟨[(3,.ref 255 1 0 a.length),(6,.sl (ab eI b)),(7,.lit (.int .i64 c)),(8,.lit (.int .i64 d))],[(255,1,.row true (ab eS a))],2⟩
attribute [go_sem] il
attribute [go_sem] Tryd.ntmps45 Tryd.results45
@[go_sem] def hi12_1:DT:=.i2 0 (.i2 1 (.i1 3 (.i1 4 (.i1 6 (.i1 7 (.i1 9 (.i1 10 (.i0 2 [3,4,6,7,9,10] (.i0 5 [6,7,9,10] (.i0 8 [9,10] (.i2 11 (.i2 12 (.i2 13 (.i2 14 .nil))))))))))))))
def hi12:Hint where
 acts:=fun _=>[]
 draws:=fun
  | 1=>⟨hi12_1,[[],[0],[0,1],[],[3],.range 5,[],[6],.range 8,[],[9],.range 11,.range 12,.range 13,.range 14],.range 15⟩
  | _=>⟨.nil,[],[]⟩
theorem xp (i:Nat):hi12.acts i=[]:=rfl
theorem xq (i:Nat):hi12.views i=none:=rfl
attribute [go_sem] xp xq Tryd.ntmps12 Tryd.results12
@[go_sem] theorem xR:(hi12.draws 1).order=hi12_1:=rfl
def fo (a b:List Int)(i:Int):St:=⟨[(0,.sl (ab eI a)),(1,.sl (ab eI b)),(5,.lit (.int .i64 i))],[],2⟩
attribute [go_sem] fo
@[go_sem] def hi46_6:DT:=.i2 0 (.i2 1 (.i2 2 (.i2 3 (.i2 4 (.i2 5 (.i2 6 (.i2 7 (.i2 8 .nil))))))))
def hi46:Hint where
 acts:=fun _=>[]
 draws:=fun
  | 6=>⟨hi46_6,[[],[],[0,1],[0,1,2],[],[],[4,5],[4,5,6],.range 8],.range 9⟩
  | _=>⟨.nil,[],[]⟩
theorem xr (i:Nat):hi46.acts i=[]:=rfl
theorem xt (i:Nat):hi46.views i=none:=rfl
attribute [go_sem] xr xt Tryd.ntmps46 Tryd.results46
@[go_sem] theorem xS:(hi46.draws 6).order=hi46_6:=rfl
theorem fX {a b:List Int}{res:Bool}(h:cB a b=some res):aI Tryd.prog 46 [.sl (ab eI a),.sl (ab eI b)] [] (.lit (.bool res)) []:=by
 refine aR (ra:=[]) (md:=mdT) hT (hi:=hi46) Tryd.func46 rfl rfl (by decide +kernel) (by simp) ?_
 unfold cB at h
 obtain ⟨h1,h⟩|⟨h1,h⟩:=al h
 ·obtain ⟨q03,l2,h⟩:=ag h
  simp(config:=cS)only[go_sem,eqT h1]
  refine aJ (m1:=.mk) (m2:=.mk) [.nf [0,1,5] []] (fo a b) l2 ?_ ?_
  ·simp(config:=cS)only[go_sem]
  ·intro nb3 i_1 bb3 b3 gb3
   unfold cd at b3
   try dsimp only at b3
   obtain ⟨h4,b3⟩|⟨h4,b3⟩:=al b3
   ·obtain ⟨x01,g5,b3⟩:=ag b3
    obtain ⟨h6,h7,h8⟩:=bf g5
    obtain ⟨x02,g9,b3⟩:=ag b3
    obtain ⟨h10,h11,h12⟩:=bf g9
    obtain ⟨h13,b3⟩|⟨h13,b3⟩:=al b3
    ·cases b3
     simp(config:=cS)only[go_sem,eqT h4,h6,h7,h8,h10,h11,h12,eqT h13]
     refine bc gb3 ?_
     simp(config:=cS)only[go_sem]
    ·cases b3
     obtain rfl:=(az gb3).symm
     try dsimp only at h
     cases h
     simp(config:=cS)only[go_sem,eqT h4,h6,h7,h8,h10,h11,h12,eqF h13]
   ·cases b3
    obtain rfl:=(az gb3).symm
    try dsimp only at h
    cases h
    simp(config:=cS)only[go_sem,eqF h4]
 ·cases h
  simp(config:=cS)only[go_sem,eqF h1]
attribute [go_sem] Tryd.ntmps13 Tryd.results13
theorem nJ {a b:GEntry}{res:Bool}(h:dg a b=some res):aI Tryd.prog 13 [.agg (GEntry.encS a),.agg (GEntry.encS b)] [] (.lit (.bool res)) []:=by
 refine aR (ra:=[]) (md:=mdT) hT (hi:=hi00) Tryd.func13 rfl rfl (by decide +kernel) (by simp) ?_
 unfold dg at h
 obtain ⟨h1,h⟩|⟨h1,h⟩:=al h
 ·obtain ⟨r01,g2,h⟩:=ag h
  simp(config:=cS)only[go_sem,eqT h1]
  refine ar (fX g2) ?_
  obtain ⟨h3,h⟩|⟨h3,h⟩:=al h
  ·obtain ⟨r02,g4,h⟩:=ag h
   simp(config:=cS)only[go_sem,eZt h3]
   refine ar (fX g4) ?_
   obtain ⟨h5,h⟩|⟨h5,h⟩:=al h
   ·obtain ⟨r03,g6,h⟩:=ag h
    simp(config:=cS)only[go_sem,eZt h5]
    refine ar (fX g6) ?_
    obtain ⟨h7,h⟩|⟨h7,h⟩:=al h
    ·cases h
     simp(config:=cS)only[go_sem,eZt h7]
    ·cases h
     simp(config:=cS)only[go_sem,eZf h7]
   ·cases h
    simp(config:=cS)only[go_sem,eZf h5]
  ·cases h
   simp(config:=cS)only[go_sem,eZf h3]
 ·cases h
  simp(config:=cS)only[go_sem,eqF h1]
@[go_sem] def hi3_10:DT:=.i1 0 (.i2 1 (.i0 2 [0] (.i2 3 (.i2 4 .nil))))
def hi3:Hint where
 acts:=fun _=>[]
 draws:=fun
  | 10=>⟨hi3_10,[[],[],[1],[0,1,2],[0,1,2,3]],.range 5⟩
  | _=>⟨.nil,[],[]⟩
theorem hi3a (i:Nat):hi3.acts i=[]:=rfl
theorem hi3v (i:Nat):hi3.views i=none:=rfl
attribute [go_sem] hi3a hi3v Tryd.ntmps3 Tryd.results3
@[go_sem] theorem xT:(hi3.draws 10).order=hi3_10:=rfl
end Go.Proofs.Qe
