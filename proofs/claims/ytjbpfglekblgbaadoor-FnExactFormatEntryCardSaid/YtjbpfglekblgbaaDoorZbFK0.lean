/- Functions. -/
import Derived.Test.YtjbpfglekblgbaaDoorZbX
import Derived.Test.YtjbpfglekblgbaaDoorZb37
set_option linter.all false
set_option maxRecDepth 100000
set_option maxHeartbeats 4000000
namespace Go.Proofs.Qb
open Go
attribute [go_sem] Tryd.ntmps39 Tryd.results39
theorem eU {a:List Int}{left res:Int}(h:bR a left=some res):aH Tryd.prog 39 [.sl (ab eI a),.lit (.int .i64 left)] [] (.lit (.int .i64 res)) []:=by
 refine aT (ra:=[]) (md:=mdT) hT (hi:=hi00) Tryd.func39 rfl rfl (by decide +kernel) (by simp) ?_
 unfold bR at h
 obtain ⟨h1,h⟩|⟨h1,h⟩:=aD h
 ·cases h
  simp(config:=cS)only[go_sem,eqT h1]
 ·cases h
  simp(config:=cS)only[go_sem,eqF h1]
attribute [go_sem] Tryd.ntmps9 Tryd.results9
theorem lR {a:GEntry}{left res:Int}(h:cC a left=some res):aH Tryd.prog 9 [.agg (GEntry.encS a),.lit (.int .i64 left)] [] (.lit (.int .i64 res)) []:=by
 refine aT (ra:=[]) (md:=mdT) hT (hi:=hi00) Tryd.func9 rfl rfl (by decide +kernel) (by simp) ?_
 unfold cC at h
 obtain ⟨r01,g1,h⟩:=ao h
 simp(config:=cS)only[go_sem]
 refine ar (eU g1) ?_
 obtain ⟨h2,h⟩|⟨h2,h⟩:=aD h
 ·cases h
  simp(config:=cS)only[go_sem,eqT h2]
 ·obtain ⟨r02,g3,h⟩:=ao h
  simp(config:=cS)only[go_sem,eqF h2]
  refine ar (eU g3) ?_
  obtain ⟨h4,h⟩|⟨h4,h⟩:=aD h
  ·cases h
   simp(config:=cS)only[go_sem,eqT h4]
  ·obtain ⟨r03,g5,h⟩:=ao h
   simp(config:=cS)only[go_sem,eqF h4]
   refine ar (eU g5) ?_
   obtain ⟨h6,h⟩|⟨h6,h⟩:=aD h
   ·cases h
    simp(config:=cS)only[go_sem,eqT h6]
   ·cases h
    simp(config:=cS)only[go_sem,eqF h6]
def dX (a:List Int):(Int × (List Int))→St
 | (i,b)=>⟨[(0,.sl (ab eI a)),(3,.ref 448 1 0 b.length),(4,.lit (.int .i64 i))],[(448,1,.row true (ab eI b))],2⟩
attribute [go_sem] dX
attribute [go_sem] Tryd.ntmps42 Tryd.results42
theorem eV {a res:List Int}(h:bS a=some res):aH Tryd.prog 42 [.sl (ab eI a)] [] (.ref 20000 1 0 res.length) [(20000,1,.row true (ab eI res))]:=by
 refine aT (ra:=[.home 2]) (md:=mdT) hT (hi:=hi00) Tryd.func42 rfl rfl (by decide +kernel) (by simp) ?_
 unfold bS at h
 obtain ⟨h1,h⟩:=aO h
 obtain ⟨h2,h⟩:=aO h
 obtain ⟨q03,l3,h⟩:=ao h
 simp(config:=cS)only[go_sem,eqT h1,eqT h2]
 refine cO (m1:=.mk) (m2:=.mk) [.nf [0,3,4] [448]] (dX a) l3 ?_ ?_
 ·simp(config:=cS)only[go_sem]
 ·intro nb4 sb4 bb4 b4 gb4
  obtain ⟨i_1,out_1⟩:=sb4
  unfold cg at b4
  try dsimp only at b4
  obtain ⟨h5,b4⟩|⟨h5,b4⟩:=aD b4
  ·obtain ⟨x01,g6,b4⟩:=ao b4
   obtain ⟨h7,h8,h9⟩:=cG g6
   obtain ⟨x02,g10,b4⟩:=ao b4
   obtain ⟨h11,h12,h13⟩:=cG g10
   cases b4
   simp(config:=cS)only[go_sem,eqT h5,h7,h8,h9,h11,h12,h13]
   refine ei gb4 ?_
   simp(config:=cS)only[go_sem]
  ·cases b4
   obtain rfl:=(ej gb4).symm
   try dsimp only at h
   cases h
   simp(config:=cS)only[go_sem,eqF h5]
attribute [go_sem] Tryd.ntmps11 Tryd.results11
theorem ek {a res:GEntry}(h:bF a=some res):aH Tryd.prog 11 [.agg (GEntry.encS a)] [] (.agg [.lit (.int .i64 res.now),.ref 20000 1 0 res.ties.length,.ref 20001 1 0 res.nodes.length,.ref 20002 1 0 res.values.length]) [(20000,1,.row true (ab eI res.ties)),(20001,1,.row true (ab eI res.nodes)),(20002,1,.row true (ab eI res.values))]:=by
 refine aT (ra:=[.homeCell 128 1,.homeCell 128 2,.homeCell 128 3]) (md:=mdT) hT (hi:=hi00) Tryd.func11 rfl rfl (by decide +kernel) (by simp) ?_
 unfold bF at h
 obtain ⟨r01,g1,h⟩:=ao h
 simp(config:=cS)only[go_sem]
 refine ar (eV g1) ?_
 obtain ⟨r02,g2,h⟩:=ao h
 simp(config:=cS)only[go_sem]
 refine ar (eV g2) ?_
 obtain ⟨r03,g3,h⟩:=ao h
 simp(config:=cS)only[go_sem]
 refine ar (eV g3) ?_
 cases h
 simp(config:=cS)only[go_sem]
def dn  : (Int × ByteArray)→St
 | (n,s)=>⟨[(0,.lit (.int .i64 n)),(3,.lit (.string s))],[],2⟩
attribute [go_sem] dn
@[go_sem] def hi40_4:DT:=.i2 0 (.i2 1 (.i2 3 (.i2 4 (.i2 5 (.i1 6 (.fork (.i0 2 [6] (.i2 7 (.i1 8 (.i2 9 (.i2 10 .nil))))) (.i2 7 (.i1 8 (.i0 2 [6,8] (.i2 9 (.i2 10 .nil)))))))))))
def hi40:Hint where
 acts:=fun _=>[]
 draws:=fun
  | 4=>⟨hi40_4,[[],[0],[0,1],[],[3],[3,4],[3,4,5],[3,4,5,6],[3,4,5,6,7],.range 9,.range 10],.range 11⟩
  | _=>⟨.nil,[],[]⟩
theorem vb (i:Nat):hi40.acts i=[]:=rfl
theorem vc (i:Nat):hi40.views i=none:=rfl
attribute [go_sem] vb vc Tryd.ntmps40 Tryd.results40
@[go_sem] theorem vy:(hi40.draws 4).order=hi40_4:=rfl
theorem ie {rec:Int→Option ByteArray}(hrec:∀ {n:Int} {res:ByteArray},rec n=some res→aH Tryd.prog 40 [.lit (.int .i64 n)] [] (.lit (.string res)) []){n:Int}{res:ByteArray}(h:aQ rec n=some res):aH Tryd.prog 40 [.lit (.int .i64 n)] [] (.lit (.string res)) []:=by
 refine aT (ra:=[]) (md:=mdT) hT (hi:=hi40) Tryd.func40 rfl rfl (by decide +kernel) (by simp) ?_
 unfold aQ at h
 obtain ⟨h1,h⟩|⟨h1,h⟩:=aD h
 ·obtain ⟨h2,h⟩|⟨h2,h⟩:=aD h
  ·obtain ⟨h3,h⟩:=aO h
   cases h
   simp(config:=cS)only[go_sem,eqT h1,eqT h2,eqT h3]
  ·try simp(config:=cS)only[go_sem,eqT h1,eqF h2]
   refine tH ?_ ?_
   ·obtain ⟨r01,g4,h⟩:=ao h
    simp(config:=cS)only[go_sem]
    refine ar (hrec g4) ?_
    obtain ⟨h5,h⟩:=aO h
    cases h
    simp(config:=cS)only[go_sem,eqT h5]
   ·obtain ⟨r02,g6,h⟩:=ao h
    simp(config:=cS)only[go_sem]
    refine ar (hrec g6) ?_
    obtain ⟨h7,h⟩:=aO h
    cases h
    simp(config:=cS)only[go_sem,eqT h7]
 ·obtain ⟨q03,l8,h⟩:=ao h
  simp(config:=cS)only[go_sem,eqF h1]
  refine cO (m1:=.mk) (m2:=.mk) [.nf [0,3] []] (dn) l8 ?_ ?_
  ·simp(config:=cS)only[go_sem]
  ·intro nb9 sb9 bb9 b9 gb9
   obtain ⟨n_1,s_1⟩:=sb9
   unfold bz at b9
   try dsimp only at b9
   obtain ⟨h10,b9⟩|⟨h10,b9⟩:=aD b9
   ·obtain ⟨h11,b9⟩:=aO b9
    cases b9
    simp(config:=cS)only[go_sem,eqT h10,eqT h11]
    refine ei gb9 ?_
    simp(config:=cS)only[go_sem]
   ·cases b9
    obtain rfl:=(ej gb9).symm
    try dsimp only at h
    obtain ⟨h13,h⟩:=aO h
    cases h
    simp(config:=cS)only[go_sem,eqF h10,eqT h13]
theorem gm (fu:Nat):∀ {n:Int} {res:ByteArray},aW fu n=some res→aH Tryd.prog 40 [.lit (.int .i64 n)] [] (.lit (.string res)) []:=by
 induction fu with
 | zero=>intro _ _ h;cases h
 | succ fu ih=>intro _ _ h;exact ie (@ih) h
theorem fG {n:Int}{res:ByteArray}(h:ch n=some res):aH Tryd.prog 40 [.lit (.int .i64 n)] [] (.lit (.string res)) []:=gm 40 h
def eZ (a:ByteArray)(c:List ByteArray)(d:Int):(ByteArray × Int)→St
 | (s,b)=>⟨[(1,.lit (.string a)),(5,.lit (.string s)),(8,.sl (ab eS c)),(9,.lit (.int .i64 d)),(10,.lit (.int .i64 b))],[],2⟩
attribute [go_sem] eZ
attribute [go_sem] Tryd.ntmps75 Tryd.results75
theorem oE {l:List ByteArray}{by_ res:ByteArray}(h:dq l by_=some res):aH Tryd.prog 75 [.sl (ab eS l),.lit (.string by_)] [] (.lit (.string res)) []:=by
 refine aT (ra:=[]) (md:=mdT) hT (hi:=hi00) Tryd.func75 rfl rfl (by decide +kernel) (by simp) ?_
 unfold dq at h
 obtain ⟨q02,l1,h⟩:=ao h
 simp(config:=cS)only[go_sem]
 refine cO (m1:=.mk) (m2:=.mk) [.nf [1,5,8,9,10] []] (eZ by_ l ((l.length:Nat):Int)) l1 ?_ ?_
 ·simp(config:=cS)only[go_sem]
 ·intro nb2 sb2 bb2 b2 gb2
  obtain ⟨s_1,v10_1⟩:=sb2
  unfold cd at b2
  try dsimp only at b2
  obtain ⟨h3,b2⟩|⟨h3,b2⟩:=aD b2
  ·obtain ⟨x01,g4,b2⟩:=ao b2
   obtain ⟨h5,h6,h7⟩:=cG g4
   obtain ⟨h8,b2⟩|⟨h8,b2⟩:=aD b2
   ·obtain ⟨h9,b2⟩:=aO b2
    obtain ⟨h10,b2⟩:=aO b2
    try simp(config:=cS)only[go_sem] at h10
    cases b2
    simp(config:=cS)only[go_sem,eqT h3,h5,h6,h7,eqT h8,eqT h9,eqT h10]
    refine ei gb2 ?_
    simp(config:=cS)only[go_sem]
   ·obtain ⟨h11,b2⟩:=aO b2
    cases b2
    simp(config:=cS)only[go_sem,eqT h3,h5,h6,h7,eqF h8,eqT h11]
    refine ei gb2 ?_
    simp(config:=cS)only[go_sem]
  ·cases b2
   obtain rfl:=(ej gb2).symm
   try dsimp only at h
   cases h
   simp(config:=cS)only[go_sem,eqF h3]
def dV (b:List Int)(c:Int):(Int × (List ByteArray))→St
 | (d,a)=>⟨[(3,.ref 384 1 0 a.length),(7,.sl (ab eI b)),(8,.lit (.int .i64 c)),(9,.lit (.int .i64 d))],[(384,1,.row true (ab eS a))],2⟩
attribute [go_sem] dV
attribute [go_sem] Tryd.ntmps41 Tryd.results41
theorem em {l:List Int}{res:ByteArray}(h:bG l=some res):aH Tryd.prog 41 [.sl (ab eI l)] [] (.lit (.string res)) []:=by
 refine aT (ra:=[]) (md:=mdT) hT (hi:=hi00) Tryd.func41 rfl rfl (by decide +kernel) (by simp) ?_
 unfold bG at h
 obtain ⟨q04,l1,h⟩:=ao h
 simp(config:=cS)only[go_sem]
 refine cO (m1:=.mk) (m2:=.mk) [.nf [3,7,8,9] [384]] (dV l ((l.length:Nat):Int)) l1 ?_ ?_
 ·simp(config:=cS)only[go_sem]
 ·intro nb2 sb2 bb2 b2 gb2
  obtain ⟨v9_1,parts_1⟩:=sb2
  unfold cv at b2
  try dsimp only at b2
  obtain ⟨h3,b2⟩|⟨h3,b2⟩:=aD b2
  ·obtain ⟨x01,g4,b2⟩:=ao b2
   obtain ⟨h5,h6,h7⟩:=cG g4
   obtain ⟨r02,g8,b2⟩:=ao b2
   simp(config:=cS)only[go_sem,eqT h3,h5,h6,h7]
   refine ar (fG g8) ?_
   obtain ⟨h9,b2⟩:=aO b2
   obtain ⟨h10,b2⟩:=aO b2
   cases b2
   simp(config:=cS)only[go_sem,eqT h9,eqT h10]
   refine ei gb2 ?_
   simp(config:=cS)only[go_sem]
  ·cases b2
   obtain rfl:=(ej gb2).symm
   try dsimp only at h
   obtain ⟨h12,h⟩|⟨h12,h⟩:=aD h
   ·cases h
    simp(config:=cS)only[go_sem,eqF h3,eqT h12]
   ·obtain ⟨r03,g13,h⟩:=ao h
    simp(config:=cS)only[go_sem,eqF h3,eqF h12]
    refine ar (oE g13) ?_
    cases h
    simp(config:=cS)only[go_sem]
@[go_sem] def hi10_1:DT:=.i2 0 (.i2 1 (.i1 4 (.i1 5 (.i1 9 (.i1 10 (.i1 14 (.i1 15 (.i0 2 [4,5,9,10,14,15] (.i2 3 (.i0 6 [9,10,14,15] (.i2 7 (.i2 8 (.i0 11 [14,15] (.i2 12 (.i2 13 (.i2 16 (.i2 17 (.i2 18 .nil))))))))))))))))))
def hi10:Hint where
 acts:=fun _=>[]
 draws:=fun
  | 1=>⟨hi10_1,[[],[0],[0,1],[0,1,2],[],[4],[0,1,2,4,5],.range 7,.range 8,[],[9],[0,1,2,4,5,6,9,10],.range 12,.range 13,[],[14],[0,1,2,4,5,6,9,10,11,14,15],.range 17,.range 18],.range 19⟩
  | _=>⟨.nil,[],[]⟩
theorem vd (i:Nat):hi10.acts i=[]:=rfl
theorem ve (i:Nat):hi10.views i=none:=rfl
attribute [go_sem] vd ve Tryd.ntmps10 Tryd.results10
@[go_sem] theorem vz:(hi10.draws 1).order=hi10_1:=rfl
theorem ig {e:GEntry}{res:ByteArray}(h:bP e=some res):aH Tryd.prog 10 [.agg (GEntry.encS e)] [] (.lit (.string res)) []:=by
 refine aT (ra:=[]) (md:=mdT) hT (hi:=hi10) Tryd.func10 rfl rfl (by decide +kernel) (by simp) ?_
 unfold bP at h
 obtain ⟨r01,g1,h⟩:=ao h
 simp(config:=cS)only[go_sem]
 refine ar (fG g1) ?_
 obtain ⟨h2,h⟩:=aO h
 obtain ⟨r02,g3,h⟩:=ao h
 simp(config:=cS)only[go_sem,eqT h2]
 refine ar (em g3) ?_
 obtain ⟨h4,h⟩:=aO h
 try simp(config:=cS)only[go_sem] at h4
 obtain ⟨h5,h⟩:=aO h
 try simp(config:=cS)only[go_sem] at h5
 obtain ⟨r03,g6,h⟩:=ao h
 simp(config:=cS)only[go_sem,eqT h2,eqT h4,eqT h5]
 refine ar (em g6) ?_
 obtain ⟨h7,h⟩:=aO h
 try simp(config:=cS)only[go_sem] at h7
 obtain ⟨h8,h⟩:=aO h
 try simp(config:=cS)only[go_sem] at h8
 obtain ⟨r04,g9,h⟩:=ao h
 simp(config:=cS)only[go_sem,eqT h2,eqT h4,eqT h5,eqT h7,eqT h8]
 refine ar (em g9) ?_
 obtain ⟨h10,h⟩:=aO h
 try simp(config:=cS)only[go_sem] at h10
 cases h
 simp(config:=cS)only[go_sem,eqT h2,eqT h4,eqT h5,eqT h7,eqT h8,eqT h10]
attribute [go_sem] Tryd.ntmps44 Tryd.results44
theorem fH {n:Int}{res:ByteArray}(h:bH n=some res):aH Tryd.prog 44 [.lit (.int .i64 n)] [] (.lit (.string res)) []:=by
 refine aT (ra:=[]) (md:=mdT) hT (hi:=hi00) Tryd.func44 rfl rfl (by decide +kernel) (by simp) ?_
 unfold bH at h
 obtain ⟨r01,g1,h⟩:=ao h
 simp(config:=cS)only[go_sem]
 refine ar (mm g1) ?_
 cases h
 simp(config:=cS)only[go_sem]
attribute [go_sem] Tryd.ntmps43 Tryd.results43
theorem jI {l:List ByteArray}{by_ res:ByteArray}(h:cP l by_=some res):aH Tryd.prog 43 [.sl (ab eS l),.lit (.string by_)] [] (.lit (.string res)) []:=by
 refine aT (ra:=[]) (md:=mdT) hT (hi:=hi00) Tryd.func43 rfl rfl (by decide +kernel) (by simp) ?_
 unfold cP at h
 obtain ⟨r01,g1,h⟩:=ao h
 simp(config:=cS)only[go_sem]
 refine ar (mn g1) ?_
 cases h
 simp(config:=cS)only[go_sem]
attribute [go_sem] Tryd.ntmps78 Tryd.results78
theorem kZ {parts:List ByteArray}{by_ res:ByteArray}(h:cU parts by_=some res):aH Tryd.prog 78 [.sl (ab eS parts),.lit (.string by_)] [] (.lit (.string res)) []:=by
 refine aT (ra:=[]) (md:=mdT) hT (hi:=hi00) Tryd.func78 rfl rfl (by decide +kernel) (by simp) ?_
 unfold cU at h
 obtain ⟨h1,h⟩|⟨h1,h⟩:=aD h
 ·cases h
  simp(config:=cS)only[go_sem,eqT h1]
 ·obtain ⟨r01,g2,h⟩:=ao h
  simp(config:=cS)only[go_sem,eqF h1]
  refine ar (jI g2) ?_
  cases h
  simp(config:=cS)only[go_sem]
def dF (b:List Int)(c:Int):(Int × (List ByteArray))→St
 | (d,a)=>⟨[(3,.ref 255 1 0 a.length),(6,.sl (ab eI b)),(7,.lit (.int .i64 c)),(8,.lit (.int .i64 d))],[(255,1,.row true (ab eS a))],2⟩
attribute [go_sem] dF
attribute [go_sem] Tryd.ntmps45 Tryd.results45
theorem dW {list:List Int}{res:ByteArray}(h:bq list=some res):aH Tryd.prog 45 [.sl (ab eI list)] [] (.lit (.string res)) []:=by
 refine aT (ra:=[]) (md:=mdT) hT (hi:=hi00) Tryd.func45 rfl rfl (by decide +kernel) (by simp) ?_
 unfold bq at h
 obtain ⟨q04,l1,h⟩:=ao h
 simp(config:=cS)only[go_sem]
 refine cO (m1:=.mk) (m2:=.mk) [.home 3,.nf [3,6,7,8] [255]] (dF list ((list.length:Nat):Int)) l1 ?_ ?_
 ·simp(config:=cS)only[go_sem]
 ·intro nb2 sb2 bb2 b2 gb2
  obtain ⟨v8_1,parts_1⟩:=sb2
  unfold cp at b2
  try dsimp only at b2
  obtain ⟨h3,b2⟩|⟨h3,b2⟩:=aD b2
  ·obtain ⟨x01,g4,b2⟩:=ao b2
   obtain ⟨h5,h6,h7⟩:=cG g4
   obtain ⟨r02,g8,b2⟩:=ao b2
   simp(config:=cS)only[go_sem,eqT h3,h5,h6,h7]
   refine ar (fH g8) ?_
   obtain ⟨h9,b2⟩:=aO b2
   obtain ⟨h10,b2⟩:=aO b2
   cases b2
   simp(config:=cS)only[go_sem,eqT h9,eqT h10]
   refine ei gb2 ?_
   simp(config:=cS)only[go_sem]
  ·cases b2
   obtain rfl:=(ej gb2).symm
   try dsimp only at h
   obtain ⟨r03,g12,h⟩:=ao h
   simp(config:=cS)only[go_sem,eqF h3]
   refine ar (kZ g12) ?_
   cases h
   simp(config:=cS)only[go_sem]
@[go_sem] def hi12_1:DT:=.i2 0 (.i2 1 (.i1 3 (.i1 4 (.i1 6 (.i1 7 (.i1 9 (.i1 10 (.i0 2 [3,4,6,7,9,10] (.i0 5 [6,7,9,10] (.i0 8 [9,10] (.i2 11 (.i2 12 (.i2 13 (.i2 14 .nil))))))))))))))
def hi12:Hint where
 acts:=fun _=>[]
 draws:=fun
  | 1=>⟨hi12_1,[[],[0],[0,1],[],[3],.range 5,[],[6],.range 8,[],[9],.range 11,.range 12,.range 13,.range 14],.range 15⟩
  | _=>⟨.nil,[],[]⟩
theorem vf (i:Nat):hi12.acts i=[]:=rfl
theorem vg (i:Nat):hi12.views i=none:=rfl
attribute [go_sem] vf vg Tryd.ntmps12 Tryd.results12
@[go_sem] theorem vA:(hi12.draws 1).order=hi12_1:=rfl
theorem ii {e:GEntry}{res:ByteArray}(h:bQ e=some res):aH Tryd.prog 12 [.agg (GEntry.encS e)] [] (.lit (.string res)) []:=by
 refine aT (ra:=[]) (md:=mdT) hT (hi:=hi12) Tryd.func12 rfl rfl (by decide +kernel) (by simp) ?_
 unfold bQ at h
 obtain ⟨r01,g1,h⟩:=ao h
 simp(config:=cS)only[go_sem]
 refine ar (fH g1) ?_
 obtain ⟨r02,g2,h⟩:=ao h
 simp(config:=cS)only[go_sem]
 refine ar (dW g2) ?_
 obtain ⟨r03,g3,h⟩:=ao h
 simp(config:=cS)only[go_sem]
 refine ar (dW g3) ?_
 obtain ⟨r04,g4,h⟩:=ao h
 simp(config:=cS)only[go_sem]
 refine ar (dW g4) ?_
 obtain ⟨r05,g5,h⟩:=ao h
 simp(config:=cS)only[go_sem]
 refine ar (jI g5) ?_
 cases h
 simp(config:=cS)only[go_sem]
def dY (a b:List Int)(i:Int):St:=⟨[(0,.sl (ab eI a)),(1,.sl (ab eI b)),(5,.lit (.int .i64 i))],[],2⟩
attribute [go_sem] dY
@[go_sem] def hi46_6:DT:=.i2 0 (.i2 1 (.i2 2 (.i2 3 (.i2 4 (.i2 5 (.i2 6 (.i2 7 (.i2 8 .nil))))))))
def hi46:Hint where
 acts:=fun _=>[]
 draws:=fun
  | 6=>⟨hi46_6,[[],[],[0,1],[0,1,2],[],[],[4,5],[4,5,6],.range 8],.range 9⟩
  | _=>⟨.nil,[],[]⟩
theorem vh (i:Nat):hi46.acts i=[]:=rfl
theorem vi (i:Nat):hi46.views i=none:=rfl
attribute [go_sem] vh vi Tryd.ntmps46 Tryd.results46
@[go_sem] theorem vB:(hi46.draws 6).order=hi46_6:=rfl
theorem eW {a b:List Int}{res:Bool}(h:bT a b=some res):aH Tryd.prog 46 [.sl (ab eI a),.sl (ab eI b)] [] (.lit (.bool res)) []:=by
 refine aT (ra:=[]) (md:=mdT) hT (hi:=hi46) Tryd.func46 rfl rfl (by decide +kernel) (by simp) ?_
 unfold bT at h
 obtain ⟨h1,h⟩|⟨h1,h⟩:=aD h
 ·obtain ⟨q03,l2,h⟩:=ao h
  simp(config:=cS)only[go_sem,eqT h1]
  refine cO (m1:=.mk) (m2:=.mk) [.nf [0,1,5] []] (dY a b) l2 ?_ ?_
  ·simp(config:=cS)only[go_sem]
  ·intro nb3 i_1 bb3 b3 gb3
   unfold bI at b3
   try dsimp only at b3
   obtain ⟨h4,b3⟩|⟨h4,b3⟩:=aD b3
   ·obtain ⟨x01,g5,b3⟩:=ao b3
    obtain ⟨h6,h7,h8⟩:=cG g5
    obtain ⟨x02,g9,b3⟩:=ao b3
    obtain ⟨h10,h11,h12⟩:=cG g9
    obtain ⟨h13,b3⟩|⟨h13,b3⟩:=aD b3
    ·cases b3
     simp(config:=cS)only[go_sem,eqT h4,h6,h7,h8,h10,h11,h12,eqT h13]
     refine ei gb3 ?_
     simp(config:=cS)only[go_sem]
    ·cases b3
     obtain rfl:=(ej gb3).symm
     try dsimp only at h
     cases h
     simp(config:=cS)only[go_sem,eqT h4,h6,h7,h8,h10,h11,h12,eqF h13]
   ·cases b3
    obtain rfl:=(ej gb3).symm
    try dsimp only at h
    cases h
    simp(config:=cS)only[go_sem,eqF h4]
 ·cases h
  simp(config:=cS)only[go_sem,eqF h1]
attribute [go_sem] Tryd.ntmps13 Tryd.results13
theorem lS {a b:GEntry}{res:Bool}(h:cD a b=some res):aH Tryd.prog 13 [.agg (GEntry.encS a),.agg (GEntry.encS b)] [] (.lit (.bool res)) []:=by
 refine aT (ra:=[]) (md:=mdT) hT (hi:=hi00) Tryd.func13 rfl rfl (by decide +kernel) (by simp) ?_
 unfold cD at h
 obtain ⟨h1,h⟩|⟨h1,h⟩:=aD h
 ·obtain ⟨r01,g2,h⟩:=ao h
  simp(config:=cS)only[go_sem,eqT h1]
  refine ar (eW g2) ?_
  obtain ⟨h3,h⟩|⟨h3,h⟩:=aD h
  ·obtain ⟨r02,g4,h⟩:=ao h
   simp(config:=cS)only[go_sem,eZt h3]
   refine ar (eW g4) ?_
   obtain ⟨h5,h⟩|⟨h5,h⟩:=aD h
   ·obtain ⟨r03,g6,h⟩:=ao h
    simp(config:=cS)only[go_sem,eZt h5]
    refine ar (eW g6) ?_
    obtain ⟨h7,h⟩|⟨h7,h⟩:=aD h
    ·cases h
     simp(config:=cS)only[go_sem,eZt h7]
    ·cases h
     simp(config:=cS)only[go_sem,eZf h7]
   ·cases h
    simp(config:=cS)only[go_sem,eZf h5]
  ·cases h
   simp(config:=cS)only[go_sem,eZf h3]
 ·cases h
  simp(config:=cS)only[go_sem,eqF h1]
@[go_sem] def hi3_10:DT:=.i1 0 (.i2 1 (.i0 2 [0] (.i2 3 (.i2 4 .nil))))
def hi3:Hint where
 acts:=fun _=>[]
 draws:=fun
  | 10=>⟨hi3_10,[[],[],[1],[0,1,2],[0,1,2,3]],.range 5⟩
  | _=>⟨.nil,[],[]⟩
theorem hi3a (i:Nat):hi3.acts i=[]:=rfl
theorem hi3v (i:Nat):hi3.views i=none:=rfl
attribute [go_sem] hi3a hi3v Tryd.ntmps3 Tryd.results3
@[go_sem] theorem vC:(hi3.draws 10).order=hi3_10:=rfl
theorem fm {aE:GEntry}{res:Bool}(h:bj aE=some res):aH Tryd.prog 3 [.agg (GEntry.encS aE)] [] (.lit (.bool res)) []:=by
 refine aT (ra:=[]) (md:=mdT) hT (hi:=hi3) Tryd.func3 rfl rfl (by decide +kernel) (by simp) ?_
 unfold bj at h
 obtain ⟨r01,g1,h⟩:=ao h
 simp(config:=cS)only[go_sem]
 refine ar (lR g1) ?_
 obtain ⟨h2,h⟩|⟨h2,h⟩:=aD h
 ·cases h
  simp(config:=cS)only[go_sem,eqT h2]
 ·obtain ⟨r02,g3,h⟩:=ao h
  simp(config:=cS)only[go_sem,eqF h2]
  refine ar (ek g3) ?_
  obtain ⟨r03,g4,h⟩:=ao h
  simp(config:=cS)only[go_sem]
  refine ar (ig g4) ?_
  obtain ⟨r04,g5,h⟩:=ao h
  simp(config:=cS)only[go_sem]
  refine ar (ek g5) ?_
  obtain ⟨r05,g6,h⟩:=ao h
  simp(config:=cS)only[go_sem]
  refine ar (ii g6) ?_
  obtain ⟨h7,h⟩|⟨h7,h⟩:=aD h
  ·obtain ⟨r06,g8,h⟩:=ao h
   simp(config:=cS)only[go_sem,eqT h7]
   refine ar (ek g8) ?_
   obtain ⟨r07,g9,h⟩:=ao h
   simp(config:=cS)only[go_sem]
   refine ar (lS g9) ?_
   obtain ⟨h10,h⟩|⟨h10,h⟩:=aD h
   ·cases h
    simp(config:=cS)only[go_sem,eZt h10]
   ·cases h
    simp(config:=cS)only[go_sem,eZf h10]
  ·cases h
   simp(config:=cS)only[go_sem,eqF h7]
end Go.Proofs.Qb
