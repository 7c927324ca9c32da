/- How the abstract state turns: a slot is written,a block is laid,written,let go,or written no more. Own work. -/
import Derived.Test.YtdhboohobflflaaGreatDoorXr2
import Derived.Laws.Append
import Derived.Laws.CopyRow
import Derived.Laws.Slices
import Derived.Laws.Entries
import Derived.Laws.Rows
import Derived.Laws.OwnMore
import Derived.IntWalk
import Derived.Laws.Strings
import Derived.WalkSpells
import Derived.Laws.StructEq
set_option linter.all false
namespace Go.Proofs.Qr
def updM (M:Nat→Cb)(id:Nat)(cb:Cb):Nat→Cb:=fun j=>if j=id then cb else M j
@[simp] theorem bG (M id cb):updM M id cb id=cb:=by simp[updM]
theorem bI {M:Nat→Cb}{id j:Nat}{cb:Cb}(h:j≠id):updM M id cb j=M j:=by simp[updM,h]
theorem aK (id ver b H):hget ((id,ver,b)::H) id=some (ver,b):=by simp[ep]
theorem aY {id j:Nat}(h:j≠id)(ver b H):hget ((id,ver,b)::H) j=hget H j:=by
 rw[ep,if_neg (fun e=>h e.symm)]
section
variable {fr:Fr} {nt:Nat} {env:Env} {H:Hp} {clk:Nat} {K:Nat→Prop} {M:Nat→Cb} {tmps:Array Value} {w:World}
theorem Rel.put (R:Rel fr nt ⟨env,H,clk⟩ K M tmps w){d:Nat}(hd:d<nt){av:AV}{v:Value}(h:erep w K clk H M av v) :
  Rel fr nt ⟨(d,av)::env,H,clk⟩ K M (tmps.setIfInBounds d v) w:=by
 refine { R with size:=by simp[R.size],env:=fun k=>?_ }
 have hk:=R.env k
 have hsz:=R.size
 simp only[im]
 by_cases hdk:d=k
 ·subst hdk
  rw[if_pos rfl]
  simp only[Array.getD_eq_getD_getElem?,Array.getElem?_setIfInBounds,if_true]
  rw[if_pos (by omega)]
  exact h
 rw[if_neg hdk]
 simp only[Array.getD_eq_getD_getElem?,Array.getElem?_setIfInBounds,if_neg hdk]at hk ⊢
 exact hk
theorem Rel.weaken (R:Rel fr nt ⟨env,H,clk⟩ K M tmps w){env':Env}(h:∀ k,look env' k=look env k∨look env' k=.dead):Rel fr nt ⟨env',H,clk⟩ K M tmps w:=by
 refine { R with env:=fun k=>?_ }
 rcases h k with h|h
 ·show erep _ _ _ _ _ (look env' k) _
  rw[h];exact R.env k
 show erep _ _ _ _ _ (look env' k) _
 rw[h];simp[erep]
theorem Rel.upd (R:Rel fr nt ⟨env,H,clk⟩ K M tmps w){id ver clk':Nat}{blk:Blk}{cb:Cb}{w':World}(T:Nat→Prop)
  (hsz:w.heap.size≤w'.heap.size) (hw:∀ b,b<w.heap.size→¬ T b→w'.heap[b]?=w.heap[b]?)
  (hos:w'.os=w.os) (htape:w'.tape=w.tape) (hout:w'.output=w.output)
  (hTK:∀ b,T b→¬ K b) (hTO:∀ b,T b→∀ j v x,j≠id→hget H j=some (v,x)→b ∉ an x (M j)) (hTf:∀ b,T b→fr.O b∨fr.w.heap.size≤b)
  (hc:clk≤clk') (hv:ver<clk')
  (hver:clk≤ver∨∃ x,hget H id=some (ver,x)∧cb.Like (M id))
  (hO:∀ x,x∈an blk cb→x<w'.heap.size∧¬ K x∧(fr.O x∨fr.w.heap.size≤x)∧∀ j v y,j≠id→hget H j=some (v,y)→x ∉ an y (M j))
  (hnd:(an blk cb).Nodup)
  (hbase:id∈fr.ids→ver=0→cb.Like (fr.M id))
  (hblk:aB w' K clk' ((id,ver,blk)::H) (updM M id cb) blk cb) :
  Rel fr nt ⟨env,(id,ver,blk)::H,clk'⟩ K (updM M id cb) tmps w':=by
 have hK:∀ b,K b→w'.heap[b]?=w.heap[b]?∧K b:=fun b hb=>⟨hw b (R.heap.low b hb) (fun ht=>hTK b ht hb),hb⟩
 have hkeeps:dI clk H M ((id,ver,blk)::H) (updM M id cb):=by
  intro j v b' hlt hg
  by_cases hj:j=id
  ·subst hj
   rw[aK]at hg
   obtain⟨rfl,rfl⟩:=Prod.mk.inj (Option.some.inj hg)
   rcases hver with h|⟨x,hx,hl⟩
   ·omega
   exact⟨x,hx,by rw[bG];exact hl⟩
  rw[aY hj]at hg
  exact⟨b',hg,by rw[bI hj];exact .refl _⟩
 have hoth:∀ j v x,j≠id→hget H j=some (v,x)→∀ b,b∈an x (M j)→w'.heap[b]?=w.heap[b]?:=by
  intro j v x hj hg b hb
  exact hw b (R.heap.apart j v x hg b hb).1 (fun ht=>hTO b ht j v x hj hg hb)
 refine { size:=R.size,pos:=Nat.le_trans R.pos hc,env:=fun k=>cv hK hc hkeeps _ _ (R.env k),heap:=?_,up:=R.up,new:=R.new,own:=?_,grown:=Nat.le_trans R.grown hsz,same:=?_,os:=hos.trans R.os,tape:=htape.trans R.tape,output:=hout.trans R.output,base:=?_,glob:=R.glob.mono hK }
 ·constructor
  ·intro j v b hg
   by_cases hj:j=id
   ·subst hj
    rw[aK]at hg
    obtain⟨rfl,rfl⟩:=Prod.mk.inj (Option.some.inj hg)
    rw[bG]
    exact⟨hv,hblk⟩
   rw[aY hj]at hg
   have:=R.heap.blk j v b hg
   simp only at this
   rw[bI hj]
   exact⟨Nat.lt_of_lt_of_le this.1 hc,gM hK hc hkeeps b _ (hoth j v b hj hg) this.2⟩
  ·intro j v b hg
   by_cases hj:j=id
   ·subst hj
    rw[aK]at hg
    obtain⟨rfl,rfl⟩:=Prod.mk.inj (Option.some.inj hg)
    rw[bG];exact hnd
   rw[aY hj]at hg
   rw[bI hj];exact R.heap.nodup j v b hg
  ·intro j v b j' v' b' hg hg' hne x hx
   by_cases hj:j=id
   ·subst hj
    rw[aK]at hg
    obtain⟨rfl,rfl⟩:=Prod.mk.inj (Option.some.inj hg)
    rw[bG]at hx
    rw[aY (Ne.symm hne)]at hg'
    rw[bI (Ne.symm hne)]
    exact(hO x hx).2.2.2 j' v' b' (Ne.symm hne) hg'
   rw[aY hj]at hg
   rw[bI hj]at hx
   by_cases hj':j'=id
   ·subst hj'
    rw[aK]at hg'
    obtain⟨rfl,rfl⟩:=Prod.mk.inj (Option.some.inj hg')
    rw[bG]
    intro hx'
    exact(hO x hx').2.2.2 j v b hj hg hx
   rw[aY hj']at hg'
   rw[bI hj']
   exact R.heap.disj j v b j' v' b' hg hg' hne x hx
  ·intro j v b hg x hx
   by_cases hj:j=id
   ·subst hj
    rw[aK]at hg
    obtain⟨rfl,rfl⟩:=Prod.mk.inj (Option.some.inj hg)
    rw[bG]at hx
    exact⟨(hO x hx).1,(hO x hx).2.1⟩
   rw[aY hj]at hg
   rw[bI hj]at hx
   have:=R.heap.apart j v b hg x hx
   exact⟨Nat.lt_of_lt_of_le this.1 hsz,this.2⟩
  intro b hb
  exact Nat.lt_of_lt_of_le (R.heap.low b hb) hsz
 ·intro j v b hg x hx
  by_cases hj:j=id
  ·subst hj
   simp only[aK]at hg
   obtain⟨rfl,rfl⟩:=Prod.mk.inj (Option.some.inj hg)
   rw[bG]at hx
   exact(hO x hx).2.2.1
  simp only[aY hj]at hg
  rw[bI hj]at hx
  exact R.own j v b hg x hx
 ·intro b hb hno
  have hlt:b<w.heap.size:=Nat.lt_of_lt_of_le hb R.grown
  rw[← R.same b hb hno]
  refine hw b hlt (fun ht=>?_)
  rcases hTf b ht with h|h
  ·exact hno h
  omega
 intro j hj b hg
 by_cases hji:j=id
 ·subst hji
  simp only[aK]at hg
  obtain⟨rfl,rfl⟩:=Prod.mk.inj (Option.some.inj hg)
  rw[bG];exact hbase hj rfl
 simp only[aY hji]at hg
 rw[bI hji];exact R.base j hj b hg
theorem Rel.letGo (R:Rel fr nt ⟨env,H,clk⟩ K M tmps w)(id:Nat):Rel fr nt ⟨env,(id,clk,.gone)::H,clk+1⟩ K M tmps w:=by
 have:=R.upd (id:=id) (ver:=clk) (clk':=clk+1) (blk:=.gone) (cb:=M id) (w':=w) (fun _=>False) (Nat.le_refl _) (fun _ _ _=>rfl) rfl rfl rfl (by simp) (by simp) (by simp)
  (by omega) (by omega) (.inl (Nat.le_refl _)) (by simp[an]) (by simp[an]) (fun hm h0=>?_) (by simp[aB])
 ·have he:updM M id (M id)=M:=by funext j;unfold updM;split <;> simp_all
  rw[he]at this
  exact this
 have:=R.pos;simp only at this;omega
theorem Rel.freeze (R:Rel fr nt ⟨env,H,clk⟩ K M tmps w){id ver:Nat}{z:Bool}{rows:List (List AV)}(hg:hget H id=some (ver,.row z rows)) :
  Rel fr nt ⟨env,(id,ver,.tree (bc rows))::H,clk⟩ (fun b=>K b∨b∈an (.row z rows) (M id)) M tmps w:=by
 have hK:∀ b,K b→w.heap[b]?=w.heap[b]?∧(K b∨b∈an (.row z rows) (M id)):=fun b hb=>⟨rfl,.inl hb⟩
 have hkeeps:dI clk H M ((id,ver,.tree (bc rows))::H) M:=by
  intro j v b' _ hg'
  by_cases hj:j=id
  ·subst hj
   rw[aK]at hg'
   obtain⟨rfl,rfl⟩:=Prod.mk.inj (Option.some.inj hg')
   exact⟨_,hg,.refl _⟩
  rw[aY hj]at hg'
  exact⟨b',hg',.refl _⟩
 have hb:=R.heap.blk id ver _ hg
 refine { size:=R.size,pos:=R.pos,env:=fun k=>cv hK (Nat.le_refl _) hkeeps _ _ (R.env k),heap:=?_,up:=fun b hb=>.inl (R.up b hb),new:=?_,own:=?_,grown:=R.grown,same:=R.same,os:=R.os,tape:=R.tape,output:=R.output,base:=?_,glob:=R.glob.mono hK }
 ·constructor
  ·intro j v b hg'
   by_cases hj:j=id
   ·subst hj
    rw[aK]at hg'
    obtain⟨rfl,rfl⟩:=Prod.mk.inj (Option.some.inj hg')
    refine⟨hb.1,?_⟩
    have h2:=hb.2
    simp only[aB]at h2 ⊢
    obtain⟨h1,rfl,h3,_⟩|⟨b,off,c,e,h1,h2,h3,h4,_,h5⟩:=h2
    ·exact .inl ⟨h1,by simp,h3⟩
    refine .inr ⟨b,off,h1,.inr (by simp[an,h1]),by rw[eA];exact h4,fR (fun b hb=>.inl hb) _ _ _ _ _ (fun x hx=>.inr (by simp[an,h1,hx])) h5⟩
   rw[aY hj]at hg'
   have:=R.heap.blk j v b hg'
   exact⟨this.1,gM hK (Nat.le_refl _) hkeeps b _ (fun _ _=>rfl) this.2⟩
  ·intro j v b hg'
   by_cases hj:j=id
   ·subst hj
    rw[aK]at hg'
    obtain⟨rfl,rfl⟩:=Prod.mk.inj (Option.some.inj hg')
    simp[an]
   rw[aY hj]at hg'
   exact R.heap.nodup j v b hg'
  ·intro j v b j' v' b' hg1 hg2 hne x hx
   by_cases hj:j=id
   ·subst hj
    rw[aK]at hg1
    obtain⟨rfl,rfl⟩:=Prod.mk.inj (Option.some.inj hg1)
    simp[an]at hx
   rw[aY hj]at hg1
   by_cases hj':j'=id
   ·subst hj'
    rw[aK]at hg2
    obtain⟨rfl,rfl⟩:=Prod.mk.inj (Option.some.inj hg2)
    simp[an]
   rw[aY hj']at hg2
   exact R.heap.disj j v b j' v' b' hg1 hg2 hne x hx
  ·intro j v b hg' x hx
   by_cases hj:j=id
   ·subst hj
    rw[aK]at hg'
    obtain⟨rfl,rfl⟩:=Prod.mk.inj (Option.some.inj hg')
    simp[an]at hx
   rw[aY hj]at hg'
   have:=R.heap.apart j v b hg' x hx
   refine⟨this.1,fun h=>?_⟩
   rcases h with h|h
   ·exact this.2 h
   exact R.heap.disj j v b id ver _ hg' hg hj x hx h
  intro b h
  rcases h with h|h
  ·exact R.heap.low b h
  exact(R.heap.apart id ver _ hg b h).1
 ·intro b h
  rcases h with h|h
  ·exact R.new b h
  exact .inr (R.own id ver _ hg b h)
 ·intro j v b hg' x hx
  by_cases hj:j=id
  ·subst hj
   simp only[aK]at hg'
   obtain⟨rfl,rfl⟩:=Prod.mk.inj (Option.some.inj hg')
   simp[an]at hx
  simp only[aY hj]at hg'
  exact R.own j v b hg' x hx
 intro j hj b hg'
 by_cases hji:j=id
 ·subst hji
  simp only[aK]at hg'
  obtain⟨rfl,rfl⟩:=Prod.mk.inj (Option.some.inj hg')
  exact R.base j hj _ hg
 simp only[aY hji]at hg'
 exact R.base j hj b hg'
end
end Go.Proofs.Qr
set_option linter.all false
namespace Go.Proofs.Qr
inductive TK where
 | int (k:IntKind)
 | bool
 | str
 | slice (e:Nat)
 | struct (fs:List (Nat × Nat))
 | map (k e:Nat)
 | other
 | unknown
structure Ty where
 kind:TK
 size:Nat
 bytes:Nat
 zero:List Value
 eqs:Option (List (Nat × Nat)):=none
def Ty.isAgg (t:Ty):Bool:=match t.kind with | .struct _=>true|_=>false
def cn (P:Program)(t:Nat):TK→Prop
 | .int k=>P.underlying t=some (.int k)
 | .bool=>P.underlying t=some .bool
 | .str=>P.underlying t=some .string
 | .slice e=>P.underlying t=some (.slice e)
 | .struct fs=>∃ fields,P.underlying t=some (.struct fields)∧fields.toList.map (fun f=>(f.offset,f.type))=fs
 | .map k e=>P.underlying t=some (.map k e)
 | .other=>∃ d,P.underlying t=some d∧(match d with | .struct _ | .array _ _=>false|_=>true)=true
 | .unknown=>False
structure Fe (P:Program) (t:Nat) (ty:Ty):Prop where
 info:∃ i z,P.info? t=some i∧i.size=ty.size∧i.bytes=ty.bytes∧i.zero=some z∧z.cells.toList=ty.zero∧ty.zero.length=ty.size
 one:∀ v,v∈ty.zero→v.oneCell'=true
 kind:cn P t ty.kind
 eqs:∀ fs,ty.eqs=some fs→∃ fields:Array Field,P.underlying t=some (.struct fields)∧fields.toList.map (fun f=>(f.offset,f.type))=fs∧(∀ f,f∈fields.toList→f.name ≠ "_")∧P.stoodInHeld t=false∧P.eqGuardType P.depth t=false
def TyOk (P:Program)(t:Nat)(ty:Ty):Prop:=match ty.kind with | .unknown=>True|_=>Fe P t ty
theorem TyOk.fits {P:Program}{t:Nat}{ty:Ty}(h:TyOk P t ty)(hk:ty.kind≠.unknown):Fe P t ty:=by
 unfold TyOk at h
 split at h
 ·contradiction
 exact h
def opnd (env:Env):Operand→AV
 | .tmp t=>look env t
 | .const v=>.lit v
 | .func f=>.fn f []
 | .global _=>.dead
section
variable {P:Program} {fr:Fr} {nt:Nat} {env:Env} {H:Hp} {clk:Nat} {K:Nat→Prop} {M:Nat→Cb} {w:World} {a:Act}
theorem Rel.opnd (R:Rel fr nt ⟨env,H,clk⟩ K M a.tmps w)(x:Operand):erep w K clk H M (opnd env x) (a.eval x):=by
 cases x with
 | tmp t=>exact R.env t
 | const v=>simp[Qr.opnd,erep,Act.eval]
 | func f=>simp[Qr.opnd,erep,Act.eval,al]
 | global g=>simp[Qr.opnd,erep]
end
def AH (op:BinOp)(k:IntKind)(a b:Int):Option Value:=
 match op with
 | .add=>some (.int k (k.wrap (a+b)))
 | .sub=>some (.int k (k.wrap (a - b)))
 | .mul=>some (.int k (k.wrap (a*b)))
 | .quo=>if b=0 then none else some (.int k (k.wrap (a.tdiv b)))
 | .rem=>if b=0 then none else some (.int k (a.tmod b))
 | .eql=>some (.bool (decide (a=b)))
 | .neq=>some (.bool (decide (a≠b)))
 | .lss=>some (.bool (decide (a<b)))
 | .leq=>some (.bool (decide (a≤b)))
 | .gtr=>some (.bool (decide (a > b)))
 | .geq=>some (.bool (decide (a ≥ b)))
 | .and=>some (.int k (k.wrap ((BitVec.ofInt k.bits a &&& BitVec.ofInt k.bits b).toNat)))
 | .or=>some (.int k (k.wrap ((BitVec.ofInt k.bits a ||| BitVec.ofInt k.bits b).toNat)))
 | .xor=>some (.int k (k.wrap ((BitVec.ofInt k.bits a ^^^ BitVec.ofInt k.bits b).toNat)))
 | _=>none
def tU (op:BinOp)(k:IntKind)(a b:Int):Option Value:=
 if b<0 then none else
 match op with
 | .shl=>some (.int k (k.wrap (a*2^(min b.toNat k.bits))))
 | .shr=>some (.int k (a.fdiv (2^(min b.toNat k.bits))))
 | _=>none
def xk (op:BinOp)(x y:ByteArray):Option Value:=
 match op with
 | .add=>if x.size+y.size≤9223372036854775807 then some (.string (x++y)) else none
 | .eql=>some (.bool (decide (x=y)))
 | .neq=>some (.bool (decide (x≠y)))
 | _=>none
def tV (T:Nat→Ty)(ft:Nat):Option AV→Option AV→Option Bool
 | some (.lit (.int k a)),some (.lit (.int k' b))=>(match (T ft).kind with
  | .int k2=>if k=k2 then (if k'=k2 then some (decide (a=b)) else none) else none
  | _=>none)
 | some (.lit (.bool a)),some (.lit (.bool b))=>(match (T ft).kind with
  | .bool=>some (decide (a=b))
  | _=>none)
 | some (.lit (.string a)),some (.lit (.string b))=>(match (T ft).kind with
  | .str=>some (decide (a=b))
  | _=>none)
 | _,_=>none
def tW (T:Nat→Ty)(xs ys:List AV):List (Nat × Nat)→Option Bool
 | []=>some true
 | p::fs=>(match tV T p.2 xs[p.1]? ys[p.1]? with
  | some b=>(match tW T xs ys fs with
   | some c=>some (b&&c)
   | none=>none)
  | none=>none)
def gN (H:Hp):AV→Option Bool
 | .lit (.slice none 0 0)=>some true
 | .sl (_::_)=>some false
 | .ref id ver _ n=>match hget H id with
  | some (v,_)=>if v=ver then (if 0<n then some false else none) else none
  | none=>none
 | _=>none
def AI (H:Hp)(T:Nat→Ty)(op:BinOp)(t:Nat):AV→AV→Option AV
 | .lit (.int k a),.lit (.int k' b)=>
  match op with
  | .shl | .shr=>(tU op k a b).map .lit
  | _=>if k=k' then (AH op k a b).map .lit else none
 | .lit (.string x),.lit (.string y)=>(xk op x y).map .lit
 | .lit (.bool x),.lit (.bool y)=>match (T t).kind with
  | .bool=>match op with
   | .eql=>some (.lit (.bool (decide (x=y))))
   | .neq=>some (.lit (.bool (decide (x≠y))))
   | _=>none
  | _=>none
 | x,.lit (.slice none 0 0)=>match (T t).kind with
  | .slice _=>match op with
   | .eql=>(gN H x).map (fun b=>.lit (.bool b))
   | .neq=>(gN H x).map (fun b=>.lit (.bool (!b)))
   | _=>none
  | _=>none
 | .agg xs,.agg ys=>(match (T t).kind with
  | .struct _=>(match (T t).eqs with
   | some fs=>(match tW T xs ys fs with
    | some b=>(match op with
     | .eql=>some (.lit (.bool b))
     | .neq=>some (.lit (.bool (!b)))
     | _=>none)
    | none=>none)
   | none=>none)
  | _=>none)
 | _,_=>none
theorem Bq (P:Program)(w:World)(op:BinOp)(k:IntKind)(a b:Int)(v:Value)(h:AH op k a b=some v) :
  (match op with
  | .add | .sub | .mul=>Op.intArith op k a b
  | .quo | .rem=>Op.intDiv op k a b
  | .and | .or | .xor | .andNot=>Op.intBits op k a b
  | _=>Op.intCmp op a b:Sem Value).run P w=.ok v w:=by
 cases op <;> simp only[AH]at h <;> first
  | (obtain rfl:=Option.some.inj h;simp[Op.intArith,Op.intCmp,Op.intBits] <;> rfl)
  | (obtain rfl:=Option.some.inj h;simp[Op.intArith,Op.intCmp,Op.intBits])
  | (
   split at h
   ·cases h
   rename_i hb
   obtain rfl:=Option.some.inj h
   simp[Op.intDiv,hb])
  | cases h
section
variable {P:Program} {fr:Fr} {nt:Nat} {env:Env} {H:Hp} {clk:Nat} {K:Nat→Prop} {M:Nat→Cb} {w:World} {a:Act}
theorem zM (P:Program)(w:World)(op:BinOp)(k k':IntKind)(a b:Int)(v:Value)(h:tU op k a b=some v):(Op.shift op k a k' b).run P w=.ok v w:=by
 unfold tU at h
 unfold Op.shift
 split at h
 ·cases h
 rename_i hb
 rw[if_neg hb]
 cases op <;> simp at h <;> subst h <;> simp
theorem Di (P:Program)(w:World)(op:BinOp)(x y:ByteArray)(v:Value)(h:xk op x y=some v):(Op.stringOp op x y).run P w=.ok v w:=by
 have hl:∀ {x y:ByteArray},(x.toList == y.toList)=decide (x=y):=by
  intro x y
  rw[Bool.eq_iff_iff,beq_iff_eq,decide_eq_true_iff]
  constructor
  ·intro hx
   rw[ByteArray.toList_eq,ByteArray.toList_eq]at hx
   exact ByteArray.ext (Array.ext' hx)
  rintro rfl;rfl
 cases op <;> simp only[xk]at h <;> try cases h
 ·split at h
  ·rename_i hle
   cases h
   simp only[Op.stringOp]
   rw[if_neg (by simp[IntKind.max,IntKind.signed,IntKind.bits];omega)]
   rfl
  cases h
 ·simp[Op.stringOp,hl]
 simp[Op.stringOp,hl]
theorem xl {x:AV}{v:Value}{b:Bool}(hx:erep w K clk H M x v)(h:gN H x=some b):∃ a n c,v=.slice a n c∧a.isNone=b:=by
 unfold gN at h
 split at h
 ·cases h
  simp only[erep]at hx
  subst hx
  exact⟨none,0,0,rfl,rfl⟩
 ·cases h
  simp only[erep,rep]at hx
  obtain⟨_,c,_,hn⟩|⟨b,off,cap,sz,rfl,_⟩:=hx.2
  ·cases hn
  exact⟨_,_,_,rfl,rfl⟩
 ·rename_i id ver i n
  split at h
  ·rename_i v' blk hg
   split at h
   ·rename_i hv
    subst hv
    split at h
    ·rename_i hn
     cases h
     simp only[erep]at hx
     obtain⟨_,a,c,rfl,hnc,hx⟩:=hx
     obtain⟨_,ha⟩:=hx blk hg
     rcases ha with rfl|⟨b,off,_,rfl⟩
     ·omega
     exact⟨_,_,_,rfl,rfl⟩
    cases h
   cases h
  cases h
 cases h
theorem Dj {T:Nat→Ty}(hT:∀ t,TyOk P t (T t)){ft off d:Nat}{xs ys:List AV}{us vs:Array Value}{b:Bool}(hx:al w K clk H M xs us.toList)(hy:al w K clk H M ys vs.toList)(h:tV T ft xs[off]? ys[off]?=some b) :
  ∃ u v,(part ft us off).run P w=.ok u w∧(part ft vs off).run P w=.ok v w∧(Op.equalIn (d+1) ft u v).run P w=.ok b w:=by
 have one:∀ {cs:List AV} {ws:Array Value} {x:AV},al w K clk H M cs ws.toList→cs[off]?=some x→∃ u,ws[off]?=some u∧erep w K clk H M x u:=by
  intro cs ws x hc hg
  have key:∀ (cs:List AV) (ws:List Value) (off:Nat),al w K clk H M cs ws→cs[off]?=some x→∃ u,ws[off]?=some u∧erep w K clk H M x u:=by
   intro cs
   induction cs with
   | nil=>intro ws off _ hg;simp at hg
   | cons c cs ih=>
    intro ws off hc hg
    cases ws with
    | nil=>simp[al]at hc
    | cons u ws=>
     simp only[al]at hc
     cases off with
     | zero=>simp at hg;subst hg;exact⟨u,rfl,hc.1⟩
     | succ n=>simpa using ih ws n hc.2 (by simpa using hg)
  obtain⟨u,h1,h2⟩:=key cs ws.toList off hc hg
  exact⟨u,by simpa using h1,h2⟩
 have hpart:∀ {ws:Array Value} {u:Value} {d:TypeDesc},P.underlying ft=some d→(match d with | .struct _ | .array _ _=>false|_=>true)=true→ws[off]?=some u→(part ft ws off).run P w=.ok u w:=by
  intro ws u d hu hd hw
  have ha:(isAgg ft).run P w=.ok false w:=by
   unfold isAgg
   simp only[Sem.run_bind,run_underlying hu,Result.andThen_ok]
   cases d <;> first|rfl|simp at hd
  simp[part,ha,hw]
 unfold tV at h
 split at h
 ·rename_i k p k' q hxo hyo
  split at h
  ·rename_i k2 hk
   split at h
   ·rename_i h1
    split at h
    ·rename_i h2
     cases h
     subst h1 h2
     have hu:P.underlying ft=some (.int k'):=by have:=((hT ft).fits (by rw[hk];simp)).kind;rw[hk]at this;exact this
     obtain⟨u,hu1,hu2⟩:=one hx hxo
     obtain⟨v,hv1,hv2⟩:=one hy hyo
     simp only[erep]at hu2 hv2
     subst hu2 hv2
     exact⟨_,_,hpart hu rfl hu1,hpart hu rfl hv1,run_equalIn_int w d ft k' k' p q hu⟩
    cases h
   cases h
  cases h
 ·rename_i p q hxo hyo
  split at h
  ·rename_i hk
   cases h
   have hu:P.underlying ft=some .bool:=by have:=((hT ft).fits (by rw[hk];simp)).kind;rw[hk]at this;exact this
   obtain⟨u,hu1,hu2⟩:=one hx hxo
   obtain⟨v,hv1,hv2⟩:=one hy hyo
   simp only[erep]at hu2 hv2
   subst hu2 hv2
   refine⟨_,_,hpart hu rfl hu1,hpart hu rfl hv1,?_⟩
   rw[run_equalIn_bool w d ft p q hu]
   cases p <;> cases q <;> rfl
  cases h
 ·rename_i p q hxo hyo
  split at h
  ·rename_i hk
   cases h
   have hu:P.underlying ft=some .string:=by have:=((hT ft).fits (by rw[hk];simp)).kind;rw[hk]at this;exact this
   obtain⟨u,hu1,hu2⟩:=one hx hxo
   obtain⟨v,hv1,hv2⟩:=one hy hyo
   simp only[erep]at hu2 hv2
   subst hu2 hv2
   refine⟨_,_,hpart hu rfl hu1,hpart hu rfl hv1,?_⟩
   rw[run_equalIn_string w d ft p q hu]
   congr 1
   rw[Bool.eq_iff_iff,beq_iff_eq,decide_eq_true_iff]
   constructor
   ·intro hx
    rw[ByteArray.toList_eq,ByteArray.toList_eq]at hx
    exact ByteArray.ext (Array.ext' hx)
   rintro rfl;rfl
  cases h
 cases h
theorem Br {T:Nat→Ty}(hT:∀ t,TyOk P t (T t)){d:Nat}{xs ys:List AV}{us vs:Array Value}(hx:al w K clk H M xs us.toList)(hy:al w K clk H M ys vs.toList) :
  ∀ (fields:List Field) (b:Bool),(∀ f,f∈fields→f.name ≠ "_")→tW T xs ys (fields.map (fun f=>(f.offset,f.type)))=some b→(Op.eqFields (d+1) us vs fields).run P w=.ok b w
 | [],b,_,h=>by
  simp only[List.map_nil,tW]at h
  cases h
  simp[Op.eqFields]
 | f::fields,b,hn,h=>by
  simp only[List.map_cons,tW]at h
  split at h
  ·rename_i b1 h1
   split at h
   ·rename_i c hc
    cases h
    obtain⟨u,v,p1,p2,p3⟩:=Dj (P:=P) hT (d:=d) hx hy h1
    have ih:=Br hT (d:=d) hx hy fields c (fun g hg=>hn g (by simp[hg])) hc
    simp only[Op.eqFields,if_pos (hn f (by simp)),Sem.run_bind,p1,p2,p3,Result.andThen_ok]
    cases b1
    ·simp
    simpa using ih
   cases h
  cases h
theorem Gh {T:Nat→Ty}(hT:∀ t,TyOk P t (T t)){op:BinOp}{t:Nat}{x y av:AV}{u v:Value}(hx:erep w K clk H M x u)(hy:erep w K clk H M y v)
  (h:AI H T op t x y=some av) (ox oy:Operand):∃ r,(do eqGuard op t ox oy u v;binOp op t u v:Sem Value).run P w=.ok r w∧erep w K clk H M av r:=by
 unfold AI at h
 split at h
 ·rename_i k p k' q
  simp only[erep]at hx hy
  subst hx hy
  have hg:(eqGuard op t ox oy (.int k p) (.int k' q)).run P w=.ok () w:=by unfold eqGuard;split <;> simp
  split at h
  ·obtain⟨r,hr,rfl⟩:=Option.map_eq_some_iff.1 h
   exact⟨r,by simp[hg,binOp,zM P w _ k k' p q r hr],by simp[erep]⟩
  ·obtain⟨r,hr,rfl⟩:=Option.map_eq_some_iff.1 h
   exact⟨r,by simp[hg,binOp,zM P w _ k k' p q r hr],by simp[erep]⟩
  rename_i hn1 hn2
  split at h
  ·rename_i hk
   subst hk
   obtain⟨r,hr,rfl⟩:=Option.map_eq_some_iff.1 h
   have:=Bq P w op k p q r hr
   refine⟨r,?_,by simp[erep]⟩
   simp only[Sem.run_bind,hg,Result.andThen_ok]
   cases op <;> simp_all [binOp]
  cases h
 ·rename_i p q
  simp only[erep]at hx hy
  subst hx hy
  obtain⟨r,hr,rfl⟩:=Option.map_eq_some_iff.1 h
  have hg:(eqGuard op t ox oy (.string p) (.string q)).run P w=.ok () w:=by unfold eqGuard;split <;> simp
  have:=Di P w op p q r hr
  refine⟨r,?_,by simp[erep]⟩
  simp only[Sem.run_bind,hg,Result.andThen_ok]
  cases op <;> simp_all [binOp,xk]
 ·rename_i p q
  simp only[erep]at hx hy
  subst hx hy
  have hg:(eqGuard op t ox oy (.bool p) (.bool q)).run P w=.ok () w:=by unfold eqGuard;split <;> simp
  split at h
  ·rename_i hk
   have hu:P.underlying t=some .bool:=by have:=((hT t).fits (by rw[hk];simp)).kind;rw[hk]at this;exact this
   have he:(Op.equal t (.bool p) (.bool q)).run P w=.ok (decide (p=q)) w:=by
    have:=run_equalIn_bool w 9999 t p q hu
    simp only[Op.equal,Op.maxDepth]
    rw[this]
    cases p <;> cases q <;> rfl
   split at h
   ·cases h
    exact⟨.bool (decide (p=q)),by simp[hg,binOp,he],by simp[erep]⟩
   ·cases h
    exact⟨.bool (decide (p≠q)),by simp[hg,binOp,he],by simp[erep]⟩
   cases h
  cases h
 ·simp only[erep]at hy
  subst hy
  split at h
  ·rename_i e hk
   have hu:P.underlying t=some (.slice e):=by have:=((hT t).fits (by rw[hk];simp)).kind;rw[hk]at this;exact this
   split at h
   ·obtain⟨b,hb,rfl⟩:=Option.map_eq_some_iff.1 h
    obtain⟨a,n,c,rfl,rfl⟩:=xl hx hb
    have hg:(eqGuard .eql t ox oy (.slice a n c) (.slice none 0 0)).run P w=.ok () w:=by unfold eqGuard;split <;> simp
    exact⟨_,by simp only[Sem.run_bind,hg,Result.andThen_ok];exact Lib.run_eql_slice_nil w t e a n c 0 0 hu,by simp[erep]⟩
   ·obtain⟨b,hb,rfl⟩:=Option.map_eq_some_iff.1 h
    obtain⟨a,n,c,rfl,rfl⟩:=xl hx hb
    have hg:(eqGuard .neq t ox oy (.slice a n c) (.slice none 0 0)).run P w=.ok () w:=by unfold eqGuard;split <;> simp
    exact⟨_,by simp only[Sem.run_bind,hg,Result.andThen_ok];exact run_neq_slice_nil_any w t e a n c 0 0 hu,by simp[erep]⟩
   cases h
  cases h
 ·rename_i xs ys
  simp only[erep]at hx hy
  obtain⟨us,rfl,hx⟩:=hx
  obtain⟨vs,rfl,hy⟩:=hy
  split at h
  ·rename_i fs0 hk0
   split at h
   ·rename_i fs hfs
    split at h
    ·rename_i b hb
     have hk:(T t).kind≠.unknown:=by rw[hk0];simp
     obtain⟨fields,hu,hmap,hnm,hst,hgt⟩:=((hT t).fits hk).eqs fs hfs
     have hfo:P.fieldsOf t=fields:=by unfold Program.fieldsOf;rw[hu]
     have heq:=Br (P:=P) hT (d:=9998) hx hy fields.toList b hnm (by rw[hmap];exact hb)
     have he:=run_equalIn_struct (P:=P) w 9999 t us vs (by rw[hfo];exact hu) hst
     rw[hfo,heq]at he
     split at h
     ·cases h
      refine⟨.bool b,?_,by simp[erep]⟩
      simp only[Sem.run_bind,run_eqGuard_agg w .eql t ox oy us vs hgt,Result.andThen_ok,run_eql_struct,he]
     ·cases h
      refine⟨.bool (!b),?_,by simp[erep]⟩
      simp only[Sem.run_bind,run_eqGuard_agg w .neq t ox oy us vs hgt,Result.andThen_ok,run_neq_struct,he]
     cases h
    cases h
   cases h
  cases h
 cases h
end
end Go.Proofs.Qr
