/- From trees that fit to the things they are. Own work. -/
import Derived.Test.YtjbpfglekblgbaaDoorZf27
import Derived.Test.YtjbpfglekblgbaaDoorZfP9
import Derived.Test.YtjbpfglekblgbaaDoorRows
import Derived.KernelRfl
set_option linter.all false
set_option maxRecDepth 100000
namespace Go.Proofs.Qf
open Go
theorem rX {s:Sh}{ss:List Sh}{aa:List AV}(h:FitL (s::ss) aa):∃ a r,aa=a::r∧Fit s a∧FitL ss r:=by
 cases aa with
 | nil=>simp [FitL] at h
 | cons a r=>simp only [FitL] at h;exact ⟨a,r,rfl,h.1,h.2⟩
theorem tn {aa:List AV}(h:FitL [] aa):aa=[]:=by
 cases aa with
 | nil=>rfl
 | cons a r=>simp [FitL] at h
theorem oQ {α:Type}{e:α→List AV}{p:α→Prop}{cs:List Sh}(hx:∀ r,FitL cs r→∃ x,r=e x∧p x):∀ {rows:List (List AV)},(∀ r,r∈rows→FitL cs r)→∃ xs:List α,rows=ab e xs∧∀ x,x∈xs→p x
 | [],_=>⟨[],rfl,by simp⟩
 | r::rows,h=>by
  obtain ⟨x,rfl,hp⟩:=hx r (h r (by simp))
  obtain ⟨xs,rfl,hps⟩:=oQ hx (rows:=rows) (fun r hr=>h r (by simp [hr]))
  refine ⟨x::xs,rfl,fun y hy=>?_⟩
  rcases List.mem_cons.1 hy with rfl | hy
  ·exact hp
  ·exact hps y hy
theorem vT {α:Type}{e:α→List AV}{p:α→Prop}{cs:List Sh}{av:AV}(hx:∀ r,FitL cs r→∃ x,r=e x∧p x)(h:Fit (.sl cs) av):∃ xs:List α,av=.sl (ab e xs)∧xs.length≤maxLen∧∀ x,x∈xs→p x:=by
 simp only [Fit] at h
 obtain ⟨rows,rfl,hl,hr⟩:=h
 obtain ⟨xs,rfl,hp⟩:=oQ hx hr
 exact ⟨xs,rfl,by simpa [ab] using hl,hp⟩
theorem ux {k:IntKind}{av:AV}(h:Fit (.int k) av):∃ n,av=.lit (.int k n):=by
 simp only [Fit] at h;obtain ⟨n,rfl,_⟩:=h;exact ⟨n,rfl⟩
theorem oR {T:Nat→Ty}{t:Nat}{ts:List Nat}{aa:List AV}(h:cg T (t::ts) aa):∃ a r,aa=a::r∧lm T t a∧cg T ts r:=by
 cases aa with
 | nil=>simp [cg] at h
 | cons a r=>simp only [cg] at h;exact ⟨a,r,rfl,h.1,h.2⟩
theorem pI {T:Nat→Ty}{aa:List AV}(h:cg T [] aa):aa=[]:=by
 cases aa with
 | nil=>rfl
 | cons a r=>simp [cg] at h
theorem qM {T:Nat→Ty}{t:Nat}{a:AV}{s:Sh}(h:lm T t a)(hs:bD T 20 t=some [s])(hk:∀ fs,(T t).kind≠.struct fs):Fit s a:=by
 obtain ⟨s',h1,h2⟩:=h
 rw [hs] at h1
 cases h1
 revert h2
 split
 ·rename_i fs hf;exact absurd hf (hk fs)
 ·intro h;simp only [FitL] at h;exact h.1
end Go.Proofs.Qf
namespace Go.Proofs.Qf
open Go
structure vU (s:ai) (t:GTie):Prop where
 f0:0≤t.from_
 f1:t.from_<s.nodes.length
 t0:0≤t.to
 t1:t.to<s.nodes.length
 lo:-20≤t.low
 hi:t.high≤20
 lh:t.low≤t.high
structure wN (s:ai):Prop where
 tie:∀ t,t∈s.ties→vU s t
 ties:s.ties.length≤14
 nodes:s.nodes.length≤7
 node1:1≤s.nodes.length
 hor:1≤s.horizon∧s.horizon≤10
theorem oS {s:ai}(h:gF s=true):wN s:=by
 unfold gF oX at h
 simp only [Bool.and_eq_true,decide_eq_true_eq] at h
 obtain ⟨⟨⟨⟨⟨⟨h1,_⟩,_⟩,h2⟩,h3⟩,h4⟩,_⟩:=h
 refine ⟨?_,h3,h1.2,h1.1,h4⟩
 intro t ht
 obtain ⟨i,hi,rfl⟩:=List.getElem_of_mem ht
 have:=h2 i hi
 rw [uF hi,Bool.and_eq_true] at this
 have hB:=this.1
 unfold tieB at hB
 rw [decide_eq_true_eq] at hB
 obtain ⟨⟨a1,a2⟩,⟨b1,b2⟩,c1,c2,c3,c4⟩:=hB
 exact ⟨a1,a2,b1,b2,c2,c3,c4⟩
def tm (ts:List Int)(i:Int):Int:=(ts[i.toNat]?).getD 0
end Go.Proofs.Qf
namespace Go.Proofs.Qf
open Go
theorem fP {α:Type}{l:List α}{i:Nat}(h:i<l.length):l.take (i+1)=l.take i++[l[i]]:=by
 rw [List.take_add_one,List.getElem?_eq_getElem h];rfl
end Go.Proofs.Qf
set_option maxRecDepth 100000
namespace Go.Proofs.Qf
open Go
end Go.Proofs.Qf
namespace Go.Proofs.Qf
open Go
end Go.Proofs.Qf
namespace Go.Proofs.Qf
open Go
end Go.Proofs.Qf
namespace Go.Proofs.Qf
open Go
end Go.Proofs.Qf
namespace Go.Proofs.Qf
open Go
end Go.Proofs.Qf
namespace Go.Proofs.Qf
open Go
end Go.Proofs.Qf
namespace Go.Proofs.Qf
open Go
section
variable {α:Type} [DecidableEq α] {σ ρ:Type} {body:σ→Option (Step σ ρ)}
end
structure FitE (e:GEntry):Prop where
 ties:e.ties.length≤1048576
 nodes:e.nodes.length≤1048576
 values:e.values.length≤1048576
end Go.Proofs.Qf
namespace Go.Proofs.Qf
open Go
end Go.Proofs.Qf
set_option maxRecDepth 100000
namespace Go.Proofs.Qf
open Go
end Go.Proofs.Qf
namespace Go.Proofs.Qf
open Go
end Go.Proofs.Qf
set_option maxRecDepth 100000
namespace Go.Proofs.Qf
open Go
end Go.Proofs.Qf
set_option maxRecDepth 100000
namespace Go.Proofs.Qf
open Go
structure Cur (c:GL01Cur):Prop where
 i0:0≤c.i
 i1:c.i≤(c.b.length:Int)
 b:c.b.length≤1048576
theorem rY (x:BitVec (IntKind.bits .i64)):0≤(((x &&& BitVec.ofInt (IntKind.bits .i64) 255).toNat:Nat):Int)∧(((x &&& BitVec.ofInt (IntKind.bits .i64) 255).toNat:Nat):Int)≤255:=by
 have h:(x &&& BitVec.ofInt (IntKind.bits .i64) 255).toNat≤(BitVec.ofInt (IntKind.bits .i64) 255).toNat:=by
  rw [BitVec.toNat_and];exact Nat.and_le_right
 have e:(BitVec.ofInt (IntKind.bits .i64) 255).toNat=255:=by decide
 omega
theorem qN {c:GL01Cur}(h:Cur c):∃ r,ba c=some r∧0≤r.1∧r.1≤255∧Cur r.2:=by
 have h0:=h.i0
 have h1:=h.i1
 have h2:=h.b
 unfold ba
 by_cases hl:c.i<((c.b.length:Nat):Int)
 ·rw [if_pos hl]
  have e:getI c.b c.i=some (c.b[c.i.toNat]'(by omega)):=by unfold getI;rw [if_pos h0,List.getElem?_eq_getElem (by omega)]
  rw [e]
  simp only [obnd]
  refine ⟨_,rfl,?_⟩
  simp only
  generalize (BitVec.ofInt (IntKind.bits .i64) (IntKind.wrap .i64 _))=x
  have hx:=rY x
  rw [wr (x:=(((x &&& BitVec.ofInt (IntKind.bits .i64) 255).toNat:Nat):Int)) (by omega) (by omega)]
  refine ⟨hx.1,hx.2,?_,?_,?_⟩
  ·simp only;rw [wr (x:=c.i+1) (by omega) (by omega)];omega
  ·simp only;rw [wr (x:=c.i+1) (by omega) (by omega)];omega
  ·exact h2
 ·rw [if_neg hl]
  refine ⟨_,rfl,?_⟩
  simp only
  generalize (BitVec.ofInt (IntKind.bits .i64) (IntKind.wrap .i64 _))=x
  have hx:=rY x
  rw [wr (x:=(((x &&& BitVec.ofInt (IntKind.bits .i64) 255).toNat:Nat):Int)) (by omega) (by omega)]
  exact ⟨hx.1,hx.2,h0,h1,h2⟩
theorem dz {c:GL01Cur}(h:Cur c)(n:Int)(hn:n≤256):∃ r,aV c n=some r∧0≤r.1∧(0<n→r.1<n)∧Cur r.2:=by
 unfold aV
 by_cases h0:n≤0
 ·rw [if_pos h0]
  exact ⟨_,rfl,Int.le_refl _,fun h=>by omega,h⟩
 ·rw [if_neg h0,if_pos hn]
  obtain ⟨r,e,a,b,hc⟩:=qN h
  rw [e]
  simp only [obnd]
  rw [aO (by omega)]
  refine ⟨_,rfl,?_,?_,hc⟩
  ·exact Int.tmod_nonneg _ a
  ·intro _;exact Int.tmod_lt_of_pos _ (by omega)
theorem qO {c:GL01Cur}(h:Cur c)(n:Int)(hn:n≤256):∃ r,cF c n=some r∧Cur r.2:=by
 unfold cF
 obtain ⟨r,e,_,_,hc⟩:=dz h n hn
 rw [e]
 exact ⟨_,rfl,hc⟩
theorem rZ (code:List Int)(h:code.length≤1048576):∃ r,cR code=some r∧Cur r:=by
 unfold cR
 have key:∃ r,bf (bZ code) (IntKind.wrap .i64 (1974+((code.length:Nat):Int)),0)=some r∧True:=by
  refine eW code.length (fun i s=>s.2=(i:Int)) (fun _=>True) rfl ?_ ?_
  ·rintro i ⟨v,j⟩ hi rfl
   unfold bZ
   simp only
   rw [if_pos (by omega)]
   by_cases h4:(i:Int)<4000
   ·rw [if_pos h4,jb hi]
    refine .inl ⟨_,rfl,?_⟩
    simp only
    rw [wr (by omega) (by omega)];omega
   ·rw [if_neg h4]
    exact .inr ⟨_,rfl,trivial⟩
  ·rintro ⟨v,j⟩ rfl
   unfold bZ
   simp only
   rw [if_neg (by omega)]
   exact ⟨_,rfl,trivial⟩
 obtain ⟨r,e,_⟩:=key
 rw [e]
 exact ⟨_,rfl,Int.le_refl _,by simp,h⟩
end Go.Proofs.Qf
