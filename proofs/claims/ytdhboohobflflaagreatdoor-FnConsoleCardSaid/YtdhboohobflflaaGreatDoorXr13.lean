/- One operation's step,and what may be forgotten between two. Own work. -/
import Derived.Test.YtdhboohobflflaaGreatDoorXr36
import Derived.Laws.BytesString
set_option linter.all false
namespace Go.Proofs.Qr
def dt:List (List AV)→Option (List Int)
 | []=>some []
 | r::rs=>match r with
  | [.lit (.int .u8 n)]=>(match dt rs with
   | some ns=>some (n::ns)
   | none=>none)
  | _=>none
def oo (ns:List Int):ByteArray:=ns.foldl (fun r n=>r.push (UInt8.ofNat n.toNat)) ByteArray.empty
def tO (H:Hp)(T:Nat→Ty)(s d:Nat)(x:AV):Option AV:=
 match (T s).kind,(T d).kind with
 | .slice e,.str=>(match (T e).kind with
  | .int .u8=>(match x with
   | .sl rows=>(match dt rows with
    | some ns=>some (.lit (.string (oo ns)))
    | none=>none)
   | .ref id ver i n=>(match hget H id with
    | some (v,blk)=>if v=ver then (match blk with
     | .row _ rows | .tree rows=>if i+n≤rows.length then (match dt ((rows.drop i).take n) with
      | some ns=>some (.lit (.string (oo ns)))
      | none=>none) else none
     | _=>none) else none
    | none=>none)
   | _=>none)
  | _=>none)
 | _,_=>none
def ct (T:Nat→Ty)(env:Env)(H:Hp)(clk:Nat)(o:Oper):Option (AV × Hp × Nat):=
 match ip T env H o.op with
 | some av=>some (av,H,clk)
 | none=>match o.op with
  | .alloc t=>(match o.dst with
   | some d=>ub T t d H clk
   | none=>none)
  | .box _ x=>(match o.dst with
   | some d=>AN d (opnd env x) H clk
   | none=>none)
  | .buildSlice t len parts=>(match o.dst with
   | some d=>kQ T t d len (parts.toList.map fun p=>(p.1,opnd env p.2)) H clk
   | none=>none)
  | .makeSlice t l c=>(match o.dst with
   | some d=>xu T t d (opnd env l) (opnd env c) H clk
   | none=>none)
  | .store t p x=>if dw (T t) then
   (match tL T t H clk (opnd env p) (opnd env x) with
   | some (H',clk')=>some (.dead,H',clk')
   | none=>none) else none
  | .convert s d x=>(match tO H T s d (opnd env x) with
   | some av=>some (av,H,clk)
   | none=>none)
  | .makeMap _ r=>(match r with
   | none=>(match o.dst with
    | some d=>pS d H clk
    | none=>none)
   | some _=>none)
  | .lookup t x i ok=>(match qS T H t (opnd env x) (opnd env i) ok with
   | some av=>some (av,H,clk)
   | none=>none)
  | .mapUpdate t x i y=>(match mw T t H clk (opnd env x) (opnd env i) (opnd env y) with
   | some (H',clk')=>some (.dead,H',clk')
   | none=>none)
  | .call c=>(match c.callee with
   | .builtin .append=>(match o.dst with
    | some d=>(match c.argTypes.toList,c.args.toList with
     | [t,t'],[s,x]=>if t=t' then qL T t d (opnd env s) (opnd env x) H clk else pJ T t t' d (opnd env s) (opnd env x) H clk
     | _,_=>none)
    | none=>none)
   | .builtin .copy=>(match c.argTypes.toList,c.args.toList with
    | [t,_],[s,x]=>xg T t H clk (opnd env s) (opnd env x)
    | _,_=>none)
   | .builtin .clear=>(match c.argTypes.toList,c.args.toList with
    | [t],[s]=>tT T t H clk (opnd env s)
    | _,_=>none)
   | _=>none)
  | _=>none
section
variable {P:Program} {fr:Fr} {nt:Nat} {env:Env} {H:Hp} {clk:Nat} {K:Nat→Prop} {M:Nat→Cb} {w w':World} {tmps:Array Value} {T:Nat→Ty} {a:Act}
theorem wR {b:Nat}:∀ (rows:List (List AV)) (off:Nat) (F:List Nat) (ns:List Int),au w K 1 b off rows F→dt rows=some ns→bL w b off (ns.map (Value.int .u8))∧ns.length=rows.length
 | [],off,F,ns,_,h=>by
  simp only[dt]at h
  cases h
  exact⟨by intro j v hj;simp at hj,rfl⟩
 | r::rows,off,F,ns,hr,h=>by
  simp only[dt]at h
  split at h
  ·rename_i n
   split at h
   ·rename_i ns' hns
    cases h
    simp only[au]at hr
    obtain⟨F1,F2,_,h1,h2,rfl⟩:=hr
    obtain⟨h3,h4⟩:=wR rows (off+1) F2 ns' h2 hns
    simp only[aF]at h1
    obtain⟨v,G1,G2,hc,hv,_,_⟩:=h1
    simp only[rep]at hv
    obtain⟨rfl,_⟩:=hv
    refine⟨?_,by simp[h4]⟩
    intro j u hj
    cases j with
    | zero=>simp at hj;subst hj;simpa using hc
    | succ j=>simp at hj;have:=h3 j u (by simpa using hj);rw[show off+(j+1)=off+1+j by omega];exact this
   cases h
  cases h
theorem CL {rows:List (List AV)}{ns:List Int}(h:dt rows=some ns):∀ r,r∈rows→r.length=1:=by
 induction rows generalizing ns with
 | nil=>simp
 | cons r rows ih=>
  simp only[dt]at h
  split at h
  ·rename_i n
   split at h
   ·rename_i ns' hns
    intro q hq
    rcases List.mem_cons.1 hq with rfl|hq
    ·rfl
    exact ih hns q hq
   cases h
  cases h
theorem Es {b off len cap:Nat}{ns:List Int}(h:bL w b off (ns.map (Value.int .u8)))(hl:ns.length=len) :
  (Conv.bytesToString (.slice (some ⟨b,off,none⟩) len cap)).run P w=.ok (.string (oo ns)) w:=by
 refine run_bytesToString w ⟨b,off,none⟩ len cap ns ?_
 have:=run_loadCells_list (P:=P) w ⟨b,off,none⟩ (ns.map (Value.int .u8)) (fun j v hj=>by rw[Addr.add_lit];exact h j v hj)
 rwa [List.length_map,hl]at this
theorem CM (hT:∀ t,TyOk P t (T t))(HO:cL w K clk H M){s d:Nat}{x av:AV}{v:Value}(hx:erep w K clk H M x v)(h:tO H T s d x=some av) :
  ∃ r,(convert s d v).run P w=.ok r w∧erep w K clk H M av r:=by
 unfold tO at h
 split at h
 ·rename_i e h1 h2
  have u1:=aZ hT h1 (by simp)
  have u2:=aZ hT h2 (by simp)
  simp only[cn]at u1 u2
  split at h
  ·rename_i h3
   have u3:=aZ hT h3 (by simp)
   simp only[cn]at u3
   have hconv:∀ ad n c,(convert s d (.slice ad n c)).run P w=(Conv.bytesToString (.slice ad n c)).run P w:=by
    intro ad n c
    simp[convert,run_underlying u1,run_underlying u2,run_underlying u3]
   have hempty:∀ ad c,(Conv.bytesToString (.slice ad 0 c)).run P w=.ok (.string (oo [])) w:=by
    intro ad c
    cases ad with
    | none=>simp[Conv.bytesToString,oo]
    | some ad=>simp[Conv.bytesToString,oo,loadCells,loadCellsFrom]
   have key:∀ (rows:List (List AV)) (ad:Option Addr) (c:Nat),(rows=[]∨∃ b off sz F,ad=some ⟨b,off,none⟩∧au w K sz b off rows F)→(match dt rows with
     | some ns=>some (AV.lit (.string (oo ns)))
     | none=>none)=some av→∃ r,(convert s d (.slice ad rows.length c)).run P w=.ok r w∧erep w K clk H M av r:=by
    intro rows ad c hrows hh
    split at hh
    ·rename_i ns hns
     cases hh
     rw[hconv]
     rcases hrows with rfl|⟨b,off,sz,F,rfl,hr⟩
     ·simp only[dt]at hns
      cases hns
      exact dj (hempty ad c)
     by_cases hne:rows=[]
     ·subst hne
      simp only[dt]at hns
      cases hns
      exact dj (hempty _ c)
     have hsz:sz=1:=by
      cases rows with
      | nil=>exact absurd rfl hne
      | cons r rs=>
       obtain⟨_,hl,_,_⟩:=cg (r::rs) off F 0 r hr rfl
       have:=CL hns r (by simp)
       omega
     subst hsz
     obtain⟨h4,h5⟩:=wR rows off F ns hr hns
     exact dj (Es h4 h5)
    cases hh
   split at h
   ·rename_i rows
    simp only[erep,rep]at hx
    obtain⟨ad,c,rfl,rfl⟩|⟨b,off,cap,sz,rfl,hc,hb,hr⟩:=hx.2
    ·exact key [] ad c (.inl rfl) h
    exact key rows _ cap (.inr ⟨b,off,sz,[],rfl,hr⟩) h
   ·rename_i id ver i n
    split at h
    ·rename_i v' blk hg
     split at h
     ·rename_i hv
      subst hv
      simp only[erep]at hx
      obtain⟨hver,a0,cc,rfl,hnc,hx⟩:=hx
      obtain⟨hcap,ha⟩:=hx blk hg
      have hblk:=(HO.blk id _ blk hg).2
      have key2:∀ (rows:List (List AV)),((M id).base=none∨∃ b off F,(M id).base=some (b,off)∧au w K (M id).sz b off rows F)→(if i+n≤rows.length then (match dt ((rows.drop i).take n) with
        | some ns=>some (AV.lit (.string (oo ns)))
        | none=>none) else none)=some av→∃ r,(convert s d (.slice a0 n cc)).run P w=.ok r w∧erep w K clk H M av r:=by
       intro rows hrows hh
       split at hh
       ·rename_i hin
        have hlen:((rows.drop i).take n).length=n:=by rw[List.length_take,List.length_drop];omega
        have:=key ((rows.drop i).take n) a0 cc ?_ hh
        ·rwa [hlen]at this
        by_cases hn0:n=0
        ·subst hn0;exact .inl (by simp)
        right
        rcases ha with ha|⟨b,off,hb,rfl⟩
        ·omega
        rcases hrows with h0|⟨b',off',F,hb',hr⟩
        ·rw[hb]at h0;cases h0
        rw[hb]at hb'
        obtain⟨rfl,rfl⟩:=Prod.mk.inj (Option.some.inj hb')
        obtain⟨F1,F2,F3,_,hr2⟩:=cJ hin hr
        exact⟨b,_,_,F2,rfl,hr2⟩
       cases hh
      split at h
      ·rename_i z rows
       simp only[aB]at hblk
       obtain⟨h1,_⟩|⟨b',off',c',e',h1,h2,h3,h4,_,h5⟩:=hblk
       ·exact key2 rows (.inl h1) h
       exact key2 rows (.inr ⟨b',off',_,h1,h5⟩) h
      ·rename_i rows
       simp only[aB]at hblk
       obtain⟨h1,_⟩|⟨b',off',h1,h2,h3,h4⟩:=hblk
       ·exact key2 rows (.inl h1) h
       exact key2 rows (.inr ⟨b',off',_,h1,h4⟩) h
      cases h
     cases h
    cases h
   cases h
  cases h
 cases h
theorem FA (hT:∀ t,TyOk P t (T t))(R:Rel fr nt ⟨env,H,clk⟩ K M a.tmps w){o:Oper}{av:AV}{H':Hp}{clk':Nat}(h:ct T env H clk o=some (av,H',clk')) :
  ∃ v w' M',((execOp a.eval o).run P w=.ok (.value v) w'∨((execOp a.eval o).run P w=.ok .skip w'∧v=undef))∧Rel fr nt ⟨env,H',clk'⟩ K M' a.tmps w'∧erep w' K clk' H' M' av v:=by
 have RO:∀ x,erep w K clk H M (opnd env x) (a.eval x):=R.opnd
 unfold ct at h
 split at h
 ·rename_i u hav
  cases h
  obtain⟨v,hr,he⟩:=Fk hT R hav
  exact⟨v,w,M,.inl hr,R,he⟩
 rename_i hnone
 clear hnone
 have mk:∀ {s:Sem Value},execOp a.eval o=(do let v ← s;pure (.value v))→kd P fr nt env K a.tmps s w av H' clk' →
   ∃ v w' M',((execOp a.eval o).run P w=.ok (.value v) w'∨((execOp a.eval o).run P w=.ok .skip w'∧v=undef))∧Rel fr nt ⟨env,H',clk'⟩ K M' a.tmps w'∧erep w' K clk' H' M' av v:=by
  intro s he hg
  obtain⟨v,w',M',hr,R',he'⟩:=hg
  exact⟨v,w',M',.inl (by rw[he];simp[hr]),R',he'⟩
 obtain⟨dst,op,type,pos,after,guard⟩:=o
 simp only at h ⊢ mk
 split at h
 ·rename_i t
  split at h
  ·rename_i d
   exact mk (by simp[execOp]) (Dr (P:=P) hT R h)
  cases h
 ·rename_i t x
  split at h
  ·rename_i d
   exact mk (by simp[execOp]) (Gr (P:=P) (t:=t) R (RO x) h)
  cases h
 ·rename_i t len parts
  split at h
  ·rename_i d
   exact mk (by simp[execOp]) (wQ (P:=P) hT R (ps:=parts.map fun (i,x)=>(i,a.eval x)) (by simpa using sC (a:=a) (xs:=parts.toList) RO) h)
  cases h
 ·rename_i t l c
  split at h
  ·rename_i d
   exact mk (by simp[execOp]) (Fm (P:=P) hT R (RO l) (RO c) h)
  cases h
 ·rename_i t p x
  split at h
  ·rename_i hk
   split at h
   ·rename_i H1 clk1 hs
    cases h
    obtain⟨w',M',hr,h1⟩:=CJ (P:=P) hT R (RO p) (RO x) (bJ hk) hs
    exact⟨undef,w',M',.inr ⟨by simp[execOp,hr],rfl⟩,h1,by simp[erep]⟩
   cases h
  cases h
 ·rename_i s d x
  split at h
  ·rename_i u hav
   cases h
   obtain⟨v,hr,he⟩:=CM (P:=P) hT R.heap (RO x) hav
   exact⟨v,w,M,.inl (by simp[execOp,hr]),R,he⟩
  cases h
 ·rename_i t r
  split at h
  ·split at h
   ·rename_i d
    exact mk (by simp[execOp]) (Bp (P:=P) (t:=t) R h)
   cases h
  cases h
 ·rename_i t x i ok
  split at h
  ·rename_i u hav
   cases h
   obtain⟨v,hr,he⟩:=Cn (P:=P) hT R.heap (RO x) (RO i) hav
   exact⟨v,w,M,.inl (by simp[execOp,hr]),R,he⟩
  cases h
 ·rename_i t x i y
  split at h
  ·rename_i H1 clk1 hs
   cases h
   obtain⟨w',M',hr,h1⟩:=yM (P:=P) hT R (RO x) (RO i) (RO y) hs
   exact⟨undef,w',M',.inr ⟨by simp[execOp,hr],rfl⟩,h1,by simp[erep]⟩
  cases h
 ·rename_i c
  obtain⟨callee,args,argTypes⟩:=c
  simp only at h mk ⊢
  split at h
  ·split at h
   ·rename_i d
    split at h
    ·rename_i t t' s x ht hx
     split at h
     ·rename_i htt
      subst htt
      have hargs:args=#[s,x]:=Array.ext' hx
      have htys:argTypes=#[t,t]:=Array.ext' ht
      subst hargs htys
      exact mk (by simp[execOp,resolve,invoke,builtin]) (BW (P:=P) hT R (RO s) (RO x) h type)
     have hargs:args=#[s,x]:=Array.ext' hx
     have htys:argTypes=#[t,t']:=Array.ext' ht
     subst hargs htys
     exact mk (by simp[execOp,resolve,invoke,builtin]) (AX (P:=P) hT R (RO s) (RO x) h type)
    cases h
   cases h
  ·split at h
   ·rename_i t t' s x ht hx
    have hargs:args=#[s,x]:=Array.ext' hx
    have htys:argTypes=#[t,t']:=Array.ext' ht
    subst hargs htys
    exact mk (by simp[execOp,resolve,invoke,builtin]) (EY (P:=P) (t':=t') (ty:=type) hT R (RO s) (RO x) h)
   cases h
  ·split at h
   ·rename_i t s ht hx
    have hargs:args=#[s]:=Array.ext' hx
    have htys:argTypes=#[t]:=Array.ext' ht
    subst hargs htys
    exact mk (by simp[execOp,resolve,invoke,builtin]) (Dh (P:=P) (ty:=type) hT R (RO s) h)
   cases h
  cases h
 cases h
theorem AY {env env':Env}(T:Nat→Ty)(H:Hp)(o:Op)(h:∀ x,x∈o.operands→opnd env x=opnd env' x):ip T env H o=ip T env' H o:=by
 have pairs:∀ ps:Array (Nat × Operand),(∀ x∈ps.map (·.2),opnd env x=opnd env' x) →
   (ps.toList.map fun p=>(p.1,opnd env p.2))=(ps.toList.map fun p=>(p.1,opnd env' p.2)):=fun ps hp=>
  List.map_congr_left fun p hm=>by
   simp only[hp p.2 (Array.mem_map.2 ⟨p,by simpa using hm,rfl⟩)]
 cases o <;> simp only[Op.operands]at h <;> simp only[ip]
 case build t ps=>rw[pairs ps fun x hx=>h x (by simpa using hx)]
 case makeFunc fn first captured=>
  rw[List.map_congr_left (l:=captured.toList) fun x hx=>h x (by simp_all)]
 case call c=>
  have h1:∀ x∈c.args.toList,opnd env x=opnd env' x:=fun x hx=>h x (by simp_all [Call.operands])
  rw[List.map_congr_left h1]
  split
  ·split
   ·rename_i hc
    rw[h1 _ (by rw[hc];simp)]
   rfl
  ·split
   ·rename_i hc
    rw[h1 _ (by rw[hc];simp)]
   rfl
  ·rfl
  ·rfl
  rfl
 case slice t x lo hi mx=>cases lo <;> cases hi <;> cases mx <;> simp_all
 all_goals (first|rfl|(simp_all;done))
theorem vp {env env':Env}(T:Nat→Ty)(H:Hp)(clk:Nat)(o:Oper)(h:∀ x,x∈o.op.operands→opnd env x=opnd env' x):ct T env H clk o=ct T env' H clk o:=by
 unfold ct
 rw[AY T H o.op h]
 obtain⟨dst,op,type,pos,after,guard⟩:=o
 simp only at h ⊢
 split
 ·rfl
 rename_i hnone
 clear hnone
 have pairs:∀ ps:Array (Nat × Operand),(∀ x∈ps.map (·.2),opnd env x=opnd env' x) →
   (ps.toList.map fun p=>(p.1,opnd env p.2))=(ps.toList.map fun p=>(p.1,opnd env' p.2)):=fun ps hp=>
  List.map_congr_left fun p hm=>by
   simp only[hp p.2 (Array.mem_map.2 ⟨p,by simpa using hm,rfl⟩)]
 cases op <;> simp only[Op.operands]at h
 case buildSlice t n ps=>simp only;rw[pairs ps fun x hx=>h x (by simpa using hx)]
 case call c=>
  have h1:∀ x∈c.args.toList,opnd env x=opnd env' x:=fun x hx=>h x (by simp_all [Call.operands])
  simp only
  split
  ·split
   ·split
    ·rename_i s x ht hx
     rw[h1 s (by rw[hx];simp),h1 x (by rw[hx];simp)]
    rfl
   rfl
  ·split
   ·rename_i t t' s x ht hx
    rw[h1 s (by rw[hx];simp),h1 x (by rw[hx];simp)]
   rfl
  ·split
   ·rename_i t s ht hx
    rw[h1 s (by rw[hx];simp)]
   rfl
  rfl
 all_goals (first|rfl|(simp_all;done))
end
end Go.Proofs.Qr
