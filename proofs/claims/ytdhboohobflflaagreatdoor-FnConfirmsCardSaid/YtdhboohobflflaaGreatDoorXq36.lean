/- Maps with strings for keys: made,looked up,written. Own work. -/
import Derived.Test.YtdhboohobflflaaGreatDoorXq35
import Derived.MapKept
set_option linter.all false
namespace Go.Proofs.Qq
open Go.MapKept
def ie (k:ByteArray):List (ByteArray × Value)→Option Value
 | []=>none
 | p::r=>if k == p.1 then some p.2 else ie k r
def setE (k:ByteArray)(v:Value):List (ByteArray × Value)→List (ByteArray × Value)
 | []=>[(k,v)]
 | p::r=>if k == p.1 then (k,v)::r else p::setE k v r
def tW (T:Nat→Ty)(t:Nat):Option Nat:=
 match (T t).kind with
 | .map kt et=>(match (T kt).kind with
  | .str=>if cF (T et) then some et else none
  | _=>none)
 | _=>none
def mT (d:Nat)(H:Hp)(clk:Nat):Option (AV × Hp × Nat):=
 some (.mp (aZ d 0) clk,(aZ d 0,clk,.map [])::H,clk+1)
def nS (T:Nat→Ty)(H:Hp)(t:Nat)(x i:AV)(ok:Bool):Option AV:=
 match tW T t with
 | some _=>(match x with
  | .mp id ver=>(match hget H id with
   | some (v,blk)=>if v=ver then (match blk with
    | .map es=>(match i with
     | .lit (.string s)=>if ok then (match ie s es with
      | some u=>some (.tup [.lit u,.lit (.bool true)])
      | none=>some (.tup [.dead,.lit (.bool false)])) else none
     | _=>none)
    | _=>none) else none
   | none=>none)
  | _=>none)
 | none=>none
def ke (T:Nat→Ty)(t:Nat)(H:Hp)(clk:Nat)(x i y:AV):Option (Hp × Nat):=
 match tW T t with
 | some _=>(match x with
  | .mp id ver=>(match hget H id with
   | some (v,blk)=>if v=ver then (match blk with
    | .map es=>(match i with
     | .lit (.string s)=>(match y with
      | .lit u=>if u.oneCell' then some ((id,ver,.map (setE s u es))::H,clk) else none
      | _=>none)
     | _=>none)
    | _=>none) else none
   | none=>none)
  | _=>none)
 | none=>none
section
variable {P:Program} {fr:Fr} {nt:Nat} {env:Env} {H:Hp} {clk:Nat} {K:Nat→Prop} {M:Nat→Cb} {w w':World} {tmps:Array Value} {T:Nat→Ty}
theorem xN (hT:∀ t,TyOk P t (T t)){t et:Nat}(h:tW T t=some et):∃ kt,P.underlying t=some (.map kt et)∧P.underlying kt=some .string∧∀ w,∃ z,(zeroValue et).run P w=.ok z w:=by
 unfold tW at h
 split at h
 ·rename_i kt e hk
  split at h
  ·rename_i hs
   split at h
   ·rename_i hkn
    cases h
    have u1:=aU hT hk (by simp)
    have u2:=aU hT hs (by simp)
    simp only[bM]at u1 u2
    refine⟨kt,u1,u2,fun w=>?_⟩
    obtain⟨i,z,hi,_,_,hz,_⟩:=gw hT (bp hkn)
    exact⟨z,by simp[zeroValue,typeInfo,hi,hz]⟩
   cases h
  cases h
 cases h
def iB (ents:List MapEntry)(es:List (ByteArray × Value)):Prop:=ents.map (fun e=>(e.key,e.val))=es.map (fun p=>(Value.string p.1,p.2))
theorem nT (s:ByteArray):∀ (ents:List MapEntry) (es:List (ByteArray × Value)) (n:Nat),iB ents es →
  (ie s es=none∧Instr.findNow .string (.string s) ents n=some none) ∨
  ∃ j u p,ie s es=some u∧Instr.findNow .string (.string s) ents n=some (some (n+j,u))∧es[j]?=some p∧(s == p.1)=true∧p.2=u∧∀ v,setE s v es=es.set j (s,v)
 | [],[],n,_=>.inl ⟨rfl,rfl⟩
 | e::ents,p::es,n,h=>by
  simp only[iB,List.map_cons,List.cons.injEq,Prod.mk.injEq]at h
  obtain⟨⟨h1,h2⟩,h3⟩:=h
  by_cases hq:(s == p.1)=true
  ·refine .inr ⟨0,p.2,p,?_,?_,rfl,hq,rfl,?_⟩
   ·simp only[ie,hq,if_true]
   ·simp only[Instr.findNow,Instr.sameNow,h1,hq,h2,Nat.add_zero]
   intro v;simp only[setE,hq,if_true,List.set_cons_zero]
  have hq':(s == p.1)=false:=by simpa using hq
  have ef:ie s (p::es)=ie s es:=by simp[ie,hq']
  have en:Instr.findNow .string (.string s) (e::ents) n=Instr.findNow .string (.string s) ents (n+1):=by
   simp only[Instr.findNow,Instr.sameNow,h1,hq']
  obtain⟨h4,h5⟩|⟨j,u,q,h4,h5,h6,h7,h8,h9⟩:=nT s ents es (n+1) h3
  ·exact .inl ⟨by rw[ef];exact h4,by rw[en];exact h5⟩
  refine .inr ⟨j+1,u,q,by rw[ef];exact h4,by rw[en,h5];congr 3;omega,by simpa using h6,h7,h8,fun v=>?_⟩
  simp[setE,hq',h9 v]
 | [],_::_,_,h=>by simp[iB]at h
 | _::_,[],_,h=>by simp[iB]at h
theorem tX {α:Type}(f:MapEntry→α)(g:MapEntry→MapEntry):∀ {l:List MapEntry} {j:Nat} {e:MapEntry},l[j]?=some e→(l.modify j g).map f=(l.map f).set j (f (g e))
 | [],_,_,h=>by simp at h
 | a::l,0,e,h=>by simp at h;subst h;simp
 | a::l,j+1,e,h=>by simp only[List.modify_succ_cons,List.map_cons,List.set_cons_succ];rw[tX f g (by simpa using h)]
theorem BT {s:ByteArray}{u:Value}{es:List (ByteArray × Value)}{q:ByteArray × Value}(h:q∈setE s u es):q=(s,u)∨q∈es:=by
 induction es with
 | nil=>simpa [setE] using h
 | cons p es ih=>
  simp only[setE]at h
  split at h
  ·rcases List.mem_cons.1 h with h|h
   ·exact .inl h
   exact .inr (by simp[h])
  rcases List.mem_cons.1 h with h|h
  ·exact .inr (by simp[h])
  rcases ih h with h|h
  ·exact .inl h
  exact .inr (by simp[h])
theorem AU (HO:ca w K clk H M){id ver:Nat}{es:List (ByteArray × Value)}{v:Value}(hx:erep w K clk H M (.mp id ver) v)(hg:hget H id=some (ver,.map es)) :
  ∃ b ents c,v=.map (some b)∧(M id).base=some (b,0)∧(M id).fp=[]∧w.heap[b]?=some (.map ents c)∧iB ents.toList es∧∀ p,p∈es→p.2.oneCell'=true:=by
 simp only[erep]at hx
 obtain⟨_,r,rfl,hb⟩:=hx
 have h1:=hb _ hg
 have h2:=(HO.blk id ver _ hg).2
 simp only[aB]at h2
 obtain⟨b,ents,c,h3,h4,h5,h6,h7⟩:=h2
 rw[h1]at h3
 cases h3
 exact⟨_,ents,c,rfl,h1,h4,h5,h6,h7⟩
theorem yH (hT:∀ t,TyOk P t (T t))(HO:ca w K clk H M){t:Nat}{x i av:AV}{u v:Value}{ok:Bool}(hx:erep w K clk H M x u)(hi:erep w K clk H M i v)(h:nS T H t x i ok=some av) :
  ∃ r,(Instr.lookup t u v ok).run P w=.ok r w∧erep w K clk H M av r:=by
 unfold nS at h
 split at h
 ·rename_i et hmt
  obtain⟨kt,h1,h2,hz⟩:=xN hT hmt
  obtain⟨z,hz⟩:=hz w
  split at h
  ·rename_i id ver
   split at h
   ·rename_i v' blk hg
    split at h
    ·rename_i hv
     subst hv
     split at h
     ·rename_i es
      split at h
      ·rename_i s
       simp only[erep]at hi
       subst hi
       split at h
       ·rename_i hok
        subst hok
        obtain⟨b,ents,c,rfl,_,_,hb,he,_⟩:=AU HO hx hg
        have hck:∀ e,(Instr.checkKey e 10000 kt (.string s)).run P w=.ok () w:=fun e=>run_checkKey (k:=.string s) h2 (by simp[IsKey]) e 9999
        obtain⟨h4,h5⟩|⟨j,q,p,h4,h5,_⟩:=nT s ents.toList es 0 he
        ·rw[h4]at h
         cases h
         refine⟨.tuple #[z,.bool false],?_,?_⟩
         ·simp[Instr.lookup,run_underlying h1,MapKept.run_getObj_map hb,hck,run_findKey h2 h5,hz,Result.andThen]
         simp only[erep]
         exact⟨_,rfl,by simp[an,erep]⟩
        rw[h4]at h
        cases h
        refine⟨.tuple #[q,.bool true],?_,?_⟩
        ·simp[Instr.lookup,run_underlying h1,MapKept.run_getObj_map hb,hck,run_findKey h2 h5,Result.andThen]
        simp only[erep]
        exact⟨_,rfl,by simp[an,erep]⟩
       cases h
      cases h
     cases h
    cases h
   cases h
  cases h
 cases h
theorem Rel.newMap (R:Rel fr nt ⟨env,H,clk⟩ K M tmps w)(id:Nat) :
  Rel fr nt ⟨env,(id,clk,.map [])::H,clk+1⟩ K (updM M id ⟨some (w.heap.size,0),0,0,[]⟩) tmps (w.alloc (.map #[] 0)):=by
 have hpos:=R.pos
 simp only at hpos
 refine R.upd (fun _=>False) (by show w.heap.size≤(w.heap.push _).size;simp) (fun b hb _=>km _ _ hb) rfl rfl rfl (by simp) (by simp) (by simp)
  (by omega) (by omega) (.inl (Nat.le_refl _)) ?_ ?_ (fun _ h0=>by omega) ?_
 ·intro x hx
  simp only[am,List.mem_singleton]at hx
  subst hx
  refine⟨by show w.heap.size<(w.heap.push _).size;simp,fun hk=>absurd (R.heap.low _ hk) (by omega),.inr R.grown,fun j v y _ hg hm=>absurd (R.heap.apart j v y hg _ hm).1 (by omega)⟩
 ·simp[am]
 simp only[aB]
 exact⟨w.heap.size,#[],0,rfl,trivial,wz _ _,by simp,by simp⟩
theorem xO (R:Rel fr nt ⟨env,H,clk⟩ K M tmps w){t d:Nat}{av:AV}{H':Hp}{clk':Nat}(h:mT d H clk=some (av,H',clk')) :
  ig P fr nt env K tmps (Instr.makeMap t none) w av H' clk':=by
 unfold mT at h
 cases h
 refine⟨.map (some w.heap.size),w.alloc (.map #[] 0),_,by simp[Instr.makeMap],R.newMap (aZ d 0),?_⟩
 simp only[erep]
 exact⟨by omega,_,rfl,fun blk _=>by simp⟩
theorem vw (hT:∀ t,TyOk P t (T t))(R:Rel fr nt ⟨env,H,clk⟩ K M tmps w){t:Nat}{x i y:AV}{u v z:Value}{H':Hp}{clk':Nat}(hx:erep w K clk H M x u)(hi:erep w K clk H M i v)(hy:erep w K clk H M y z)
  (h:ke T t H clk x i y=some (H',clk')):∃ w' M',(Instr.mapUpdate t u v z).run P w=.ok () w'∧Rel fr nt ⟨env,H',clk'⟩ K M' tmps w':=by
 unfold ke at h
 split at h
 ·rename_i et hmt
  obtain⟨kt,h1,h2,_⟩:=xN hT hmt
  split at h
  ·rename_i id ver
   split at h
   ·rename_i v' blk hg
    split at h
    ·rename_i hv
     subst hv
     split at h
     ·rename_i es
      split at h
      ·rename_i s
       simp only[erep]at hi
       subst hi
       split at h
       ·rename_i q
        simp only[erep]at hy
        subst hy
        split at h
        ·rename_i hone
         cases h
         obtain⟨b,ents,c,rfl,hbase,hfp,hb,he,hall⟩:=AU R.heap hx hg
         have hck:(Instr.checkKey false 10000 kt (.string s)).run P w=.ok () w:=run_checkKey (k:=.string s) h2 (by simp[IsKey]) false 9999
         have put:∀ (ents':Array MapEntry) (c':Nat),iB ents'.toList (setE s z es)→Rel fr nt ⟨env,(id,v',.map (setE s z es))::H,clk⟩ K (updM M id (M id)) tmps { w with heap:=w.heap.setIfInBounds b (.map ents' c') }:=by
          intro ents' c' he'
          obtain⟨g1,g2⟩:=heap_set (o':=.map ents' c') hb
          refine R.write (w':={ w with heap:=w.heap.setIfInBounds b (.map ents' c') }) (b:=b) hg (.refl _) (by simp[am,hbase]) (by simp) (fun x hx=>g2 x hx) rfl rfl rfl [] .nil (fun x hx=>.inl (by simpa [am] using hx)) (fun hn=>by simpa [am] using hn) ?_
          simp only[aB]
          refine⟨b,ents',c',hbase,hfp,g1,he',fun p hp=>?_⟩
          rcases BT hp with rfl|hp
          ·exact hone
          exact hall p hp
         obtain⟨h4,h5⟩|⟨j,q,p,h4,h5,h6,h7,h8,h9⟩:=nT s ents.toList es 0 he
         ·refine⟨_,_,?_,put (ents.push { key:=.string s,val:=z,born:=c }) (c+1) ?_⟩
          ·simp[Instr.mapUpdate,run_underlying h1,MapKept.run_getObj_map hb,hck,run_findKey h2 h5,MapKept.run_setObj_map _ hb,Result.andThen]
          have hs:∀ l:List (ByteArray × Value),ie s l=none→setE s z l=l++[(s,z)]:=by
           intro l
           induction l with
           | nil=>intro _;rfl
           | cons p l ih=>
            intro hl
            simp only[ie]at hl
            split at hl
            ·cases hl
            rename_i hne
            simp only[setE,hne,Bool.false_eq_true,if_false,ih hl,List.cons_append]
          rw[hs es h4]
          unfold iB at he ⊢
          simp[he]
         simp only[Nat.zero_add]at h5
         have hj:∃ e,ents[j]?=some e∧e.key=.string p.1:=by
          have hm:=congrArg (fun l=>l[j]?) he
          simp only[List.getElem?_map,h6,Option.map_some]at hm
          obtain⟨e,h10,h11⟩:=Option.map_eq_some_iff.1 hm
          simp only[Prod.mk.injEq]at h11
          exact⟨e,by simpa using h10,h11.1⟩
         obtain⟨e,hej,hek⟩:=hj
         have hst:(Instr.keyThatStays (.string p.1) (.string s)).run P w=.ok (.string s) w:=by
          obtain rfl:=(bytes_beq _ _).1 h7
          exact run_keyThatStays (d:=.string) (by simp[IsKey])
         refine⟨_,_,?_,put (ents.modify j fun e=>{ e with key:=.string s,val:=z }) c ?_⟩
         ·simp[Instr.mapUpdate,run_underlying h1,MapKept.run_getObj_map hb,hck,run_findKey h2 h5,MapKept.run_setObj_map _ hb,Result.andThen,hej,hek,hst]
         rw[h9 z]
         unfold iB at he ⊢
         rw[Array.toList_modify,List.map_set,← he]
         have hej':ents.toList[j]?=some e:=by simpa using hej
         exact tX (fun e=>(e.key,e.val)) (fun e=>{ e with key:=.string s,val:=z }) hej'
        cases h
       cases h
      cases h
     cases h
    cases h
   cases h
  cases h
 cases h
end
end Go.Proofs.Qq
