/- The types of the seat,and that they fit. Made by gentypes.py. -/
import Derived.Test.YtjbpfglekblgbaaDoorZe31
import Derived.KernelRfl
import Derived.Test.YtjbpfglekblgbaaDoorProg
set_option linter.all false
namespace Go.Proofs.Qe
open Go
def unkTy:Ty:=⟨.unknown,0,0,[],none⟩
def ty1:Ty:=⟨.other,1,8,[Go.Value.nilFunc],none⟩
def ty2:Ty:=⟨.int .i64,1,8,[Go.Value.int Go.IntKind.i64 0],none⟩
def ty3:Ty:=⟨.int .i64,1,8,[Go.Value.int Go.IntKind.i64 0],none⟩
def ty4:Ty:=⟨.bool,1,1,[Go.Value.bool false],none⟩
def ty5:Ty:=⟨.int .u8,1,1,[Go.Value.int Go.IntKind.u8 0],none⟩
def ty9:Ty:=⟨.str,1,16,[Go.Value.string { data:=#[] }],none⟩
def ty20:Ty:=⟨.other,1,16,[Go.Value.nilIface],none⟩
def ty22:Ty:=⟨.slice 3,1,24,[Go.Value.slice none 0 0],none⟩
def ty24:Ty:=⟨.struct [(0,3),(1,22),(2,22),(3,22)],4,80,[Go.Value.int Go.IntKind.i64 0,Go.Value.slice none 0 0,Go.Value.slice none 0 0,Go.Value.slice none 0 0],none⟩
def ty27:Ty:=⟨.struct [(0,3),(1,22),(2,22),(3,22)],4,80,[Go.Value.int Go.IntKind.i64 0,Go.Value.slice none 0 0,Go.Value.slice none 0 0,Go.Value.slice none 0 0],none⟩
def ty35:Ty:=⟨.slice 5,1,24,[Go.Value.slice none 0 0],none⟩
def ty37:Ty:=⟨.slice 27,1,24,[Go.Value.slice none 0 0],none⟩
def ty42:Ty:=⟨.slice 109,1,24,[Go.Value.slice none 0 0],none⟩
def ty43:Ty:=⟨.slice 114,1,24,[Go.Value.slice none 0 0],none⟩
def ty45:Ty:=⟨.struct [(0,42),(1,43),(2,3)],3,56,[Go.Value.slice none 0 0,Go.Value.slice none 0 0,Go.Value.int Go.IntKind.i64 0],none⟩
def ty47:Ty:=⟨.slice 9,1,24,[Go.Value.slice none 0 0],none⟩
def ty49:Ty:=⟨.slice 90,1,24,[Go.Value.slice none 0 0],none⟩
def ty50:Ty:=⟨.slice 88,1,24,[Go.Value.slice none 0 0],none⟩
def ty52:Ty:=⟨.struct [(0,49),(1,50),(2,3)],3,56,[Go.Value.slice none 0 0,Go.Value.slice none 0 0,Go.Value.int Go.IntKind.i64 0],none⟩
def ty62:Ty:=⟨.struct [(0,3),(1,22),(2,22)],3,56,[Go.Value.int Go.IntKind.i64 0,Go.Value.slice none 0 0,Go.Value.slice none 0 0],none⟩
def ty65:Ty:=⟨.struct [(0,3),(1,22),(2,22)],3,56,[Go.Value.int Go.IntKind.i64 0,Go.Value.slice none 0 0,Go.Value.slice none 0 0],none⟩
def ty80:Ty:=⟨.other,1,8,[Go.Value.pointer none],none⟩
def ty88:Ty:=⟨.struct [(0,3),(1,3),(2,3),(3,3),(4,4)],5,40,[Go.Value.int Go.IntKind.i64 0,Go.Value.int Go.IntKind.i64 0,Go.Value.int Go.IntKind.i64 0,Go.Value.int Go.IntKind.i64 0,Go.Value.bool false],some [(0,3),(1,3),(2,3),(3,3),(4,4)]⟩
def ty90:Ty:=⟨.struct [(0,9),(1,22),(2,3)],3,48,[Go.Value.string { data:=#[] },Go.Value.slice none 0 0,Go.Value.int Go.IntKind.i64 0],none⟩
def ty101:Ty:=⟨.other,1,16,[Go.Value.nilIface],none⟩
def ty107:Ty:=⟨.struct [(0,35),(1,3),(2,3)],3,40,[Go.Value.slice none 0 0,Go.Value.int Go.IntKind.i64 0,Go.Value.int Go.IntKind.i64 0],none⟩
def ty109:Ty:=⟨.struct [(0,9),(1,22),(2,3)],3,48,[Go.Value.string { data:=#[] },Go.Value.slice none 0 0,Go.Value.int Go.IntKind.i64 0],none⟩
def ty114:Ty:=⟨.struct [(0,3),(1,3),(2,3),(3,3),(4,4)],5,40,[Go.Value.int Go.IntKind.i64 0,Go.Value.int Go.IntKind.i64 0,Go.Value.int Go.IntKind.i64 0,Go.Value.int Go.IntKind.i64 0,Go.Value.bool false],some [(0,3),(1,3),(2,3),(3,3),(4,4)]⟩
def ty117:Ty:=⟨.other,1,8,[Go.Value.nilFunc],none⟩
def ty122:Ty:=⟨.other,1,8,[Go.Value.pointer none],none⟩
def ty124:Ty:=⟨.struct [(0,122),(1,35)],2,32,[Go.Value.pointer none,Go.Value.slice none 0 0],none⟩
def ty130:Ty:=⟨.other,1,8,[Go.Value.nilFunc],none⟩
def ty135:Ty:=⟨.other,1,8,[Go.Value.nilFunc],none⟩
def tys:List Ty:=[unkTy,ty1,ty2,ty3,ty4,ty5,unkTy,unkTy,unkTy,ty9,unkTy,unkTy,unkTy,unkTy,unkTy,unkTy,unkTy,unkTy,unkTy,unkTy,ty20,unkTy,ty22,unkTy,ty24,unkTy,unkTy,ty27,unkTy,unkTy,unkTy,unkTy,unkTy,unkTy,unkTy,ty35,unkTy,ty37,unkTy,unkTy,unkTy,unkTy,ty42,ty43,unkTy,ty45,unkTy,ty47,unkTy,ty49,ty50,unkTy,ty52,unkTy,unkTy,unkTy,unkTy,unkTy,unkTy,unkTy,unkTy,unkTy,ty62,unkTy,unkTy,ty65,unkTy,unkTy,unkTy,unkTy,unkTy,unkTy,unkTy,unkTy,unkTy,unkTy,unkTy,unkTy,unkTy,unkTy,ty80,unkTy,unkTy,unkTy,unkTy,unkTy,unkTy,unkTy,ty88,unkTy,ty90,unkTy,unkTy,unkTy,unkTy,unkTy,unkTy,unkTy,unkTy,unkTy,unkTy,ty101,unkTy,unkTy,unkTy,unkTy,unkTy,ty107,unkTy,ty109,unkTy,unkTy,unkTy,unkTy,ty114,unkTy,unkTy,ty117,unkTy,unkTy,unkTy,unkTy,ty122,unkTy,ty124,unkTy,unkTy,unkTy,unkTy,unkTy,ty130,unkTy,unkTy,unkTy,unkTy,ty135]
def T (t:Nat):Ty:=tys.getD t unkTy
inductive bG (P:Program):Nat→List Ty→Prop
 | nil (k:Nat):bG P k []
 | cons {k:Nat} {ty:Ty} {l:List Ty} (h:TyOk P k ty) (r:bG P (k+1) l):bG P k (ty::l)
theorem bG.get {P:Program}:∀ {l:List Ty} {k:Nat},bG P k l→∀ i,TyOk P (k+i) (l.getD i unkTy)
 | _,_,.nil _,i=>by simp [unkTy,TyOk]
 | _,_,.cons h r,0=>h
 | _,_,.cons (k:=k) h r,i+1=>by
  have:=r.get i
  rw [show k+1+i=k+(i+1) by omega] at this
  simpa using this
theorem ah (P:Program)(t:Nat):TyOk P t unkTy:=by simp [unkTy,TyOk]
theorem aC {P:Program}{t:Nat}{ty:Ty}{i:TypeInfo}{z:Value}(hs:t<P.types.size)(h1:P.types[t]?=some i)(h2:i.zero=some z)(h:i.size=ty.size∧i.bytes=ty.bytes∧z.cells.toList=ty.zero∧ty.zero.length=ty.size)(h3:ty.zero.all (fun v=>v.oneCell')=true)(h4:bp P t ty.kind)(h5:∀ fs,ty.eqs=some fs→∃ fields:Array Field,P.underlying t=some (.struct fields)∧fields.toList.map (fun f=>(f.offset,f.type))=fs∧(∀ f,f∈fields.toList→f.name ≠ "_")∧P.stoodInHeld t=false∧P.eqGuardType P.depth t=false):TyOk P t ty:=by
 unfold TyOk
 split
 ·trivial
 ·exact ⟨⟨i,z,(by unfold Tables.info?;rw [if_pos hs];exact h1),h.1,h.2.1,h2,h.2.2.1,h.2.2.2⟩,fun v hv=>List.all_eq_true.1 h3 v hv,h4,h5⟩
theorem xv:TyOk Tryd.prog 1 ty1:=aC (i:=Tryd.t1) (by rw [Tryd.types_size];decide) Tryd.type1 rfl ⟨rfl,rfl,rfl,rfl⟩ rfl (by exact ⟨_,Tryd.underlying1,rfl⟩) (by intro fs h;cases h)
theorem xw:TyOk Tryd.prog 2 ty2:=aC (i:=Tryd.t2) (by rw [Tryd.types_size];decide) Tryd.type2 rfl ⟨rfl,rfl,rfl,rfl⟩ rfl (by exact Tryd.underlying2) (by intro fs h;cases h)
theorem xx:TyOk Tryd.prog 3 ty3:=aC (i:=Tryd.t3) (by rw [Tryd.types_size];decide) Tryd.type3 rfl ⟨rfl,rfl,rfl,rfl⟩ rfl (by exact Tryd.underlying3) (by intro fs h;cases h)
theorem xy:TyOk Tryd.prog 4 ty4:=aC (i:=Tryd.t4) (by rw [Tryd.types_size];decide) Tryd.type4 rfl ⟨rfl,rfl,rfl,rfl⟩ rfl (by exact Tryd.underlying4) (by intro fs h;cases h)
theorem xz:TyOk Tryd.prog 5 ty5:=aC (i:=Tryd.t5) (by rw [Tryd.types_size];decide) Tryd.type5 rfl ⟨rfl,rfl,rfl,rfl⟩ rfl (by exact Tryd.underlying5) (by intro fs h;cases h)
theorem xA:TyOk Tryd.prog 9 ty9:=aC (i:=Tryd.t9) (by rw [Tryd.types_size];decide) Tryd.type9 rfl ⟨rfl,rfl,rfl,rfl⟩ rfl (by exact Tryd.underlying9) (by intro fs h;cases h)
theorem wE:TyOk Tryd.prog 20 ty20:=aC (i:=Tryd.t20) (by rw [Tryd.types_size];decide) Tryd.type20 rfl ⟨rfl,rfl,rfl,rfl⟩ rfl (by exact ⟨_,Tryd.underlying20,rfl⟩) (by intro fs h;cases h)
theorem wF:TyOk Tryd.prog 22 ty22:=aC (i:=Tryd.t22) (by rw [Tryd.types_size];decide) Tryd.type22 rfl ⟨rfl,rfl,rfl,rfl⟩ rfl (by exact Tryd.underlying22) (by intro fs h;cases h)
theorem wG:TyOk Tryd.prog 24 ty24:=aC (i:=Tryd.t24) (by rw [Tryd.types_size];decide) Tryd.type24 rfl ⟨rfl,rfl,rfl,rfl⟩ rfl (by exact ⟨_,Tryd.underlying24,rfl⟩) (by intro fs h;cases h)
theorem wH:TyOk Tryd.prog 27 ty27:=aC (i:=Tryd.t27) (by rw [Tryd.types_size];decide) Tryd.type27 rfl ⟨rfl,rfl,rfl,rfl⟩ rfl (by exact ⟨_,Tryd.underlying27,rfl⟩) (by intro fs h;cases h)
theorem wI:TyOk Tryd.prog 35 ty35:=aC (i:=Tryd.t35) (by rw [Tryd.types_size];decide) Tryd.type35 rfl ⟨rfl,rfl,rfl,rfl⟩ rfl (by exact Tryd.underlying35) (by intro fs h;cases h)
theorem wJ:TyOk Tryd.prog 37 ty37:=aC (i:=Tryd.t37) (by rw [Tryd.types_size];decide) Tryd.type37 rfl ⟨rfl,rfl,rfl,rfl⟩ rfl (by exact Tryd.underlying37) (by intro fs h;cases h)
theorem wK:TyOk Tryd.prog 42 ty42:=aC (i:=Tryd.t42) (by rw [Tryd.types_size];decide) Tryd.type42 rfl ⟨rfl,rfl,rfl,rfl⟩ rfl (by exact Tryd.underlying42) (by intro fs h;cases h)
theorem wL:TyOk Tryd.prog 43 ty43:=aC (i:=Tryd.t43) (by rw [Tryd.types_size];decide) Tryd.type43 rfl ⟨rfl,rfl,rfl,rfl⟩ rfl (by exact Tryd.underlying43) (by intro fs h;cases h)
theorem wM:TyOk Tryd.prog 45 ty45:=aC (i:=Tryd.t45) (by rw [Tryd.types_size];decide) Tryd.type45 rfl ⟨rfl,rfl,rfl,rfl⟩ rfl (by exact ⟨_,Tryd.underlying45,rfl⟩) (by intro fs h;cases h)
theorem wN:TyOk Tryd.prog 47 ty47:=aC (i:=Tryd.t47) (by rw [Tryd.types_size];decide) Tryd.type47 rfl ⟨rfl,rfl,rfl,rfl⟩ rfl (by exact Tryd.underlying47) (by intro fs h;cases h)
theorem wO:TyOk Tryd.prog 49 ty49:=aC (i:=Tryd.t49) (by rw [Tryd.types_size];decide) Tryd.type49 rfl ⟨rfl,rfl,rfl,rfl⟩ rfl (by exact Tryd.underlying49) (by intro fs h;cases h)
theorem wP:TyOk Tryd.prog 50 ty50:=aC (i:=Tryd.t50) (by rw [Tryd.types_size];decide) Tryd.type50 rfl ⟨rfl,rfl,rfl,rfl⟩ rfl (by exact Tryd.underlying50) (by intro fs h;cases h)
theorem wQ:TyOk Tryd.prog 52 ty52:=aC (i:=Tryd.t52) (by rw [Tryd.types_size];decide) Tryd.type52 rfl ⟨rfl,rfl,rfl,rfl⟩ rfl (by exact ⟨_,Tryd.underlying52,rfl⟩) (by intro fs h;cases h)
theorem wR:TyOk Tryd.prog 62 ty62:=aC (i:=Tryd.t62) (by rw [Tryd.types_size];decide) Tryd.type62 rfl ⟨rfl,rfl,rfl,rfl⟩ rfl (by exact ⟨_,Tryd.underlying62,rfl⟩) (by intro fs h;cases h)
theorem wS:TyOk Tryd.prog 65 ty65:=aC (i:=Tryd.t65) (by rw [Tryd.types_size];decide) Tryd.type65 rfl ⟨rfl,rfl,rfl,rfl⟩ rfl (by exact ⟨_,Tryd.underlying65,rfl⟩) (by intro fs h;cases h)
theorem wT:TyOk Tryd.prog 80 ty80:=aC (i:=Tryd.t80) (by rw [Tryd.types_size];decide) Tryd.type80 rfl ⟨rfl,rfl,rfl,rfl⟩ rfl (by exact ⟨_,Tryd.underlying80,rfl⟩) (by intro fs h;cases h)
theorem wU:TyOk Tryd.prog 88 ty88:=aC (i:=Tryd.t88) (by rw [Tryd.types_size];decide) Tryd.type88 rfl ⟨rfl,rfl,rfl,rfl⟩ rfl (by exact ⟨_,Tryd.underlying88,rfl⟩) (by intro fs h;cases h;exact ⟨_,Tryd.underlying88,rfl,by decide,by kernel_rfl,by kernel_rfl⟩)
theorem wV:TyOk Tryd.prog 90 ty90:=aC (i:=Tryd.t90) (by rw [Tryd.types_size];decide) Tryd.type90 rfl ⟨rfl,rfl,rfl,rfl⟩ rfl (by exact ⟨_,Tryd.underlying90,rfl⟩) (by intro fs h;cases h)
theorem vp:TyOk Tryd.prog 101 ty101:=aC (i:=Tryd.t101) (by rw [Tryd.types_size];decide) Tryd.type101 rfl ⟨rfl,rfl,rfl,rfl⟩ rfl (by exact ⟨_,Tryd.underlying101,rfl⟩) (by intro fs h;cases h)
theorem vq:TyOk Tryd.prog 107 ty107:=aC (i:=Tryd.t107) (by rw [Tryd.types_size];decide) Tryd.type107 rfl ⟨rfl,rfl,rfl,rfl⟩ rfl (by exact ⟨_,Tryd.underlying107,rfl⟩) (by intro fs h;cases h)
theorem vt:TyOk Tryd.prog 109 ty109:=aC (i:=Tryd.t109) (by rw [Tryd.types_size];decide) Tryd.type109 rfl ⟨rfl,rfl,rfl,rfl⟩ rfl (by exact ⟨_,Tryd.underlying109,rfl⟩) (by intro fs h;cases h)
theorem vu:TyOk Tryd.prog 114 ty114:=aC (i:=Tryd.t114) (by rw [Tryd.types_size];decide) Tryd.type114 rfl ⟨rfl,rfl,rfl,rfl⟩ rfl (by exact ⟨_,Tryd.underlying114,rfl⟩) (by intro fs h;cases h;exact ⟨_,Tryd.underlying114,rfl,by decide,by kernel_rfl,by kernel_rfl⟩)
theorem vw:TyOk Tryd.prog 117 ty117:=aC (i:=Tryd.t117) (by rw [Tryd.types_size];decide) Tryd.type117 rfl ⟨rfl,rfl,rfl,rfl⟩ rfl (by exact ⟨_,Tryd.underlying117,rfl⟩) (by intro fs h;cases h)
theorem vx:TyOk Tryd.prog 122 ty122:=aC (i:=Tryd.t122) (by rw [Tryd.types_size];decide) Tryd.type122 rfl ⟨rfl,rfl,rfl,rfl⟩ rfl (by exact ⟨_,Tryd.underlying122,rfl⟩) (by intro fs h;cases h)
theorem vy:TyOk Tryd.prog 124 ty124:=aC (i:=Tryd.t124) (by rw [Tryd.types_size];decide) Tryd.type124 rfl ⟨rfl,rfl,rfl,rfl⟩ rfl (by exact ⟨_,Tryd.underlying124,rfl⟩) (by intro fs h;cases h)
theorem vz:TyOk Tryd.prog 130 ty130:=aC (i:=Tryd.t130) (by rw [Tryd.types_size];decide) Tryd.type130 rfl ⟨rfl,rfl,rfl,rfl⟩ rfl (by exact ⟨_,Tryd.underlying130,rfl⟩) (by intro fs h;cases h)
theorem vA:TyOk Tryd.prog 135 ty135:=aC (i:=Tryd.t135) (by rw [Tryd.types_size];decide) Tryd.type135 rfl ⟨rfl,rfl,rfl,rfl⟩ rfl (by exact ⟨_,Tryd.underlying135,rfl⟩) (by intro fs h;cases h)
theorem wW {l:List Ty}(r:bG Tryd.prog 16 l):bG Tryd.prog 0 (unkTy::ty1::ty2::ty3::ty4::ty5::unkTy::unkTy::unkTy::ty9::unkTy::unkTy::unkTy::unkTy::unkTy::unkTy::l):=
 .cons (ah _ _) (.cons xv (.cons xw (.cons xx (.cons xy (.cons xz (.cons (ah _ _) (.cons (ah _ _) (.cons (ah _ _) (.cons xA (.cons (ah _ _) (.cons (ah _ _) (.cons (ah _ _) (.cons (ah _ _) (.cons (ah _ _) (.cons (ah _ _) (r))))))))))))))))
theorem vB {l:List Ty}(r:bG Tryd.prog 32 l):bG Tryd.prog 16 (unkTy::unkTy::unkTy::unkTy::ty20::unkTy::ty22::unkTy::ty24::unkTy::unkTy::ty27::unkTy::unkTy::unkTy::unkTy::l):=
 .cons (ah _ _) (.cons (ah _ _) (.cons (ah _ _) (.cons (ah _ _) (.cons wE (.cons (ah _ _) (.cons wF (.cons (ah _ _) (.cons wG (.cons (ah _ _) (.cons (ah _ _) (.cons wH (.cons (ah _ _) (.cons (ah _ _) (.cons (ah _ _) (.cons (ah _ _) (r))))))))))))))))
theorem vC {l:List Ty}(r:bG Tryd.prog 48 l):bG Tryd.prog 32 (unkTy::unkTy::unkTy::ty35::unkTy::ty37::unkTy::unkTy::unkTy::unkTy::ty42::ty43::unkTy::ty45::unkTy::ty47::l):=
 .cons (ah _ _) (.cons (ah _ _) (.cons (ah _ _) (.cons wI (.cons (ah _ _) (.cons wJ (.cons (ah _ _) (.cons (ah _ _) (.cons (ah _ _) (.cons (ah _ _) (.cons wK (.cons wL (.cons (ah _ _) (.cons wM (.cons (ah _ _) (.cons wN (r))))))))))))))))
theorem vD {l:List Ty}(r:bG Tryd.prog 64 l):bG Tryd.prog 48 (unkTy::ty49::ty50::unkTy::ty52::unkTy::unkTy::unkTy::unkTy::unkTy::unkTy::unkTy::unkTy::unkTy::ty62::unkTy::l):=
 .cons (ah _ _) (.cons wO (.cons wP (.cons (ah _ _) (.cons wQ (.cons (ah _ _) (.cons (ah _ _) (.cons (ah _ _) (.cons (ah _ _) (.cons (ah _ _) (.cons (ah _ _) (.cons (ah _ _) (.cons (ah _ _) (.cons (ah _ _) (.cons wR (.cons (ah _ _) (r))))))))))))))))
theorem vE {l:List Ty}(r:bG Tryd.prog 80 l):bG Tryd.prog 64 (unkTy::ty65::unkTy::unkTy::unkTy::unkTy::unkTy::unkTy::unkTy::unkTy::unkTy::unkTy::unkTy::unkTy::unkTy::unkTy::l):=
 .cons (ah _ _) (.cons wS (.cons (ah _ _) (.cons (ah _ _) (.cons (ah _ _) (.cons (ah _ _) (.cons (ah _ _) (.cons (ah _ _) (.cons (ah _ _) (.cons (ah _ _) (.cons (ah _ _) (.cons (ah _ _) (.cons (ah _ _) (.cons (ah _ _) (.cons (ah _ _) (.cons (ah _ _) (r))))))))))))))))
theorem vF {l:List Ty}(r:bG Tryd.prog 96 l):bG Tryd.prog 80 (ty80::unkTy::unkTy::unkTy::unkTy::unkTy::unkTy::unkTy::ty88::unkTy::ty90::unkTy::unkTy::unkTy::unkTy::unkTy::l):=
 .cons wT (.cons (ah _ _) (.cons (ah _ _) (.cons (ah _ _) (.cons (ah _ _) (.cons (ah _ _) (.cons (ah _ _) (.cons (ah _ _) (.cons wU (.cons (ah _ _) (.cons wV (.cons (ah _ _) (.cons (ah _ _) (.cons (ah _ _) (.cons (ah _ _) (.cons (ah _ _) (r))))))))))))))))
theorem vG {l:List Ty}(r:bG Tryd.prog 112 l):bG Tryd.prog 96 (unkTy::unkTy::unkTy::unkTy::unkTy::ty101::unkTy::unkTy::unkTy::unkTy::unkTy::ty107::unkTy::ty109::unkTy::unkTy::l):=
 .cons (ah _ _) (.cons (ah _ _) (.cons (ah _ _) (.cons (ah _ _) (.cons (ah _ _) (.cons vp (.cons (ah _ _) (.cons (ah _ _) (.cons (ah _ _) (.cons (ah _ _) (.cons (ah _ _) (.cons vq (.cons (ah _ _) (.cons vt (.cons (ah _ _) (.cons (ah _ _) (r))))))))))))))))
theorem uf {l:List Ty}(r:bG Tryd.prog 128 l):bG Tryd.prog 112 (unkTy::unkTy::ty114::unkTy::unkTy::ty117::unkTy::unkTy::unkTy::unkTy::ty122::unkTy::ty124::unkTy::unkTy::unkTy::l):=
 .cons (ah _ _) (.cons (ah _ _) (.cons vu (.cons (ah _ _) (.cons (ah _ _) (.cons vw (.cons (ah _ _) (.cons (ah _ _) (.cons (ah _ _) (.cons (ah _ _) (.cons vx (.cons (ah _ _) (.cons vy (.cons (ah _ _) (.cons (ah _ _) (.cons (ah _ _) (r))))))))))))))))
theorem ug {l:List Ty}(r:bG Tryd.prog 136 l):bG Tryd.prog 128 (unkTy::unkTy::ty130::unkTy::unkTy::unkTy::unkTy::ty135::l):=
 .cons (ah _ _) (.cons (ah _ _) (.cons vz (.cons (ah _ _) (.cons (ah _ _) (.cons (ah _ _) (.cons (ah _ _) (.cons vA (r))))))))
theorem hT (t:Nat):TyOk Tryd.prog t (T t):=by
 have h:bG Tryd.prog 0 tys:=wW (vB (vC (vD (vE (vF (vG (uf (ug (.nil _)))))))))
 have:=h.get t
 rw [Nat.zero_add] at this
 exact this
section
open TK
@[simp,go_sem] theorem Tk1:(T 1).kind=.other:=rfl
@[simp,go_sem] theorem Ts1:(T 1).size=1:=rfl
@[simp,go_sem] theorem Tb1:(T 1).bytes=8:=rfl
@[simp,go_sem] theorem Tz1:(T 1).zero=[Go.Value.nilFunc]:=rfl
@[simp,go_sem] theorem Tk2:(T 2).kind=.int .i64:=rfl
@[simp,go_sem] theorem Ts2:(T 2).size=1:=rfl
@[simp,go_sem] theorem Tb2:(T 2).bytes=8:=rfl
@[simp,go_sem] theorem Tz2:(T 2).zero=[Go.Value.int Go.IntKind.i64 0]:=rfl
@[simp,go_sem] theorem Tk3:(T 3).kind=.int .i64:=rfl
@[simp,go_sem] theorem Ts3:(T 3).size=1:=rfl
@[simp,go_sem] theorem Tb3:(T 3).bytes=8:=rfl
@[simp,go_sem] theorem Tz3:(T 3).zero=[Go.Value.int Go.IntKind.i64 0]:=rfl
@[simp,go_sem] theorem Tk4:(T 4).kind=.bool:=rfl
@[simp,go_sem] theorem Ts4:(T 4).size=1:=rfl
@[simp,go_sem] theorem Tb4:(T 4).bytes=1:=rfl
@[simp,go_sem] theorem Tz4:(T 4).zero=[Go.Value.bool false]:=rfl
@[simp,go_sem] theorem Tk5:(T 5).kind=.int .u8:=rfl
@[simp,go_sem] theorem Ts5:(T 5).size=1:=rfl
@[simp,go_sem] theorem Tb5:(T 5).bytes=1:=rfl
@[simp,go_sem] theorem Tz5:(T 5).zero=[Go.Value.int Go.IntKind.u8 0]:=rfl
@[simp,go_sem] theorem Tk9:(T 9).kind=.str:=rfl
@[simp,go_sem] theorem Ts9:(T 9).size=1:=rfl
@[simp,go_sem] theorem Tb9:(T 9).bytes=16:=rfl
@[simp,go_sem] theorem Tz9:(T 9).zero=[Go.Value.string { data:=#[] }]:=rfl
@[simp,go_sem] theorem Tk20:(T 20).kind=.other:=rfl
@[simp,go_sem] theorem Ts20:(T 20).size=1:=rfl
@[simp,go_sem] theorem Tb20:(T 20).bytes=16:=rfl
@[simp,go_sem] theorem Tz20:(T 20).zero=[Go.Value.nilIface]:=rfl
@[simp,go_sem] theorem Tk22:(T 22).kind=.slice 3:=rfl
@[simp,go_sem] theorem Ts22:(T 22).size=1:=rfl
@[simp,go_sem] theorem Tb22:(T 22).bytes=24:=rfl
@[simp,go_sem] theorem Tz22:(T 22).zero=[Go.Value.slice none 0 0]:=rfl
@[simp,go_sem] theorem Tk24:(T 24).kind=.struct [(0,3),(1,22),(2,22),(3,22)]:=rfl
@[simp,go_sem] theorem Ts24:(T 24).size=4:=rfl
@[simp,go_sem] theorem Tb24:(T 24).bytes=80:=rfl
@[simp,go_sem] theorem Tz24:(T 24).zero=[Go.Value.int Go.IntKind.i64 0,Go.Value.slice none 0 0,Go.Value.slice none 0 0,Go.Value.slice none 0 0]:=rfl
@[simp,go_sem] theorem Tk27:(T 27).kind=.struct [(0,3),(1,22),(2,22),(3,22)]:=rfl
@[simp,go_sem] theorem Ts27:(T 27).size=4:=rfl
@[simp,go_sem] theorem Tb27:(T 27).bytes=80:=rfl
@[simp,go_sem] theorem Tz27:(T 27).zero=[Go.Value.int Go.IntKind.i64 0,Go.Value.slice none 0 0,Go.Value.slice none 0 0,Go.Value.slice none 0 0]:=rfl
@[simp,go_sem] theorem Tk35:(T 35).kind=.slice 5:=rfl
@[simp,go_sem] theorem Ts35:(T 35).size=1:=rfl
@[simp,go_sem] theorem Tb35:(T 35).bytes=24:=rfl
@[simp,go_sem] theorem Tz35:(T 35).zero=[Go.Value.slice none 0 0]:=rfl
@[simp,go_sem] theorem Tk37:(T 37).kind=.slice 27:=rfl
@[simp,go_sem] theorem Ts37:(T 37).size=1:=rfl
@[simp,go_sem] theorem Tb37:(T 37).bytes=24:=rfl
@[simp,go_sem] theorem Tz37:(T 37).zero=[Go.Value.slice none 0 0]:=rfl
@[simp,go_sem] theorem Tk42:(T 42).kind=.slice 109:=rfl
@[simp,go_sem] theorem Ts42:(T 42).size=1:=rfl
@[simp,go_sem] theorem Tb42:(T 42).bytes=24:=rfl
@[simp,go_sem] theorem Tz42:(T 42).zero=[Go.Value.slice none 0 0]:=rfl
@[simp,go_sem] theorem Tk43:(T 43).kind=.slice 114:=rfl
@[simp,go_sem] theorem Ts43:(T 43).size=1:=rfl
@[simp,go_sem] theorem Tb43:(T 43).bytes=24:=rfl
@[simp,go_sem] theorem Tz43:(T 43).zero=[Go.Value.slice none 0 0]:=rfl
@[simp,go_sem] theorem Tk45:(T 45).kind=.struct [(0,42),(1,43),(2,3)]:=rfl
@[simp,go_sem] theorem Ts45:(T 45).size=3:=rfl
@[simp,go_sem] theorem Tb45:(T 45).bytes=56:=rfl
@[simp,go_sem] theorem Tz45:(T 45).zero=[Go.Value.slice none 0 0,Go.Value.slice none 0 0,Go.Value.int Go.IntKind.i64 0]:=rfl
@[simp,go_sem] theorem Tk47:(T 47).kind=.slice 9:=rfl
@[simp,go_sem] theorem Ts47:(T 47).size=1:=rfl
@[simp,go_sem] theorem Tb47:(T 47).bytes=24:=rfl
@[simp,go_sem] theorem Tz47:(T 47).zero=[Go.Value.slice none 0 0]:=rfl
@[simp,go_sem] theorem Tk49:(T 49).kind=.slice 90:=rfl
@[simp,go_sem] theorem Ts49:(T 49).size=1:=rfl
@[simp,go_sem] theorem Tb49:(T 49).bytes=24:=rfl
@[simp,go_sem] theorem Tz49:(T 49).zero=[Go.Value.slice none 0 0]:=rfl
@[simp,go_sem] theorem Tk50:(T 50).kind=.slice 88:=rfl
@[simp,go_sem] theorem Ts50:(T 50).size=1:=rfl
@[simp,go_sem] theorem Tb50:(T 50).bytes=24:=rfl
@[simp,go_sem] theorem Tz50:(T 50).zero=[Go.Value.slice none 0 0]:=rfl
@[simp,go_sem] theorem Tk52:(T 52).kind=.struct [(0,49),(1,50),(2,3)]:=rfl
@[simp,go_sem] theorem Ts52:(T 52).size=3:=rfl
@[simp,go_sem] theorem Tb52:(T 52).bytes=56:=rfl
@[simp,go_sem] theorem Tz52:(T 52).zero=[Go.Value.slice none 0 0,Go.Value.slice none 0 0,Go.Value.int Go.IntKind.i64 0]:=rfl
@[simp,go_sem] theorem Tk62:(T 62).kind=.struct [(0,3),(1,22),(2,22)]:=rfl
@[simp,go_sem] theorem Ts62:(T 62).size=3:=rfl
@[simp,go_sem] theorem Tb62:(T 62).bytes=56:=rfl
@[simp,go_sem] theorem Tz62:(T 62).zero=[Go.Value.int Go.IntKind.i64 0,Go.Value.slice none 0 0,Go.Value.slice none 0 0]:=rfl
@[simp,go_sem] theorem Tk65:(T 65).kind=.struct [(0,3),(1,22),(2,22)]:=rfl
@[simp,go_sem] theorem Ts65:(T 65).size=3:=rfl
@[simp,go_sem] theorem Tb65:(T 65).bytes=56:=rfl
@[simp,go_sem] theorem Tz65:(T 65).zero=[Go.Value.int Go.IntKind.i64 0,Go.Value.slice none 0 0,Go.Value.slice none 0 0]:=rfl
@[simp,go_sem] theorem Tk80:(T 80).kind=.other:=rfl
@[simp,go_sem] theorem Ts80:(T 80).size=1:=rfl
@[simp,go_sem] theorem Tb80:(T 80).bytes=8:=rfl
@[simp,go_sem] theorem Tz80:(T 80).zero=[Go.Value.pointer none]:=rfl
@[simp,go_sem] theorem Tk88:(T 88).kind=.struct [(0,3),(1,3),(2,3),(3,3),(4,4)]:=rfl
@[simp,go_sem] theorem Ts88:(T 88).size=5:=rfl
@[simp,go_sem] theorem Tb88:(T 88).bytes=40:=rfl
@[simp,go_sem] theorem Tz88:(T 88).zero=[Go.Value.int Go.IntKind.i64 0,Go.Value.int Go.IntKind.i64 0,Go.Value.int Go.IntKind.i64 0,Go.Value.int Go.IntKind.i64 0,Go.Value.bool false]:=rfl
@[simp,go_sem] theorem Te88:(T 88).eqs=some [(0,3),(1,3),(2,3),(3,3),(4,4)]:=rfl
@[simp,go_sem] theorem Tk90:(T 90).kind=.struct [(0,9),(1,22),(2,3)]:=rfl
@[simp,go_sem] theorem Ts90:(T 90).size=3:=rfl
@[simp,go_sem] theorem Tb90:(T 90).bytes=48:=rfl
@[simp,go_sem] theorem Tz90:(T 90).zero=[Go.Value.string { data:=#[] },Go.Value.slice none 0 0,Go.Value.int Go.IntKind.i64 0]:=rfl
@[simp,go_sem] theorem yJ:(T 101).kind=.other:=rfl
@[simp,go_sem] theorem yK:(T 101).size=1:=rfl
@[simp,go_sem] theorem yL:(T 101).bytes=16:=rfl
@[simp,go_sem] theorem yM:(T 101).zero=[Go.Value.nilIface]:=rfl
@[simp,go_sem] theorem yN:(T 107).kind=.struct [(0,35),(1,3),(2,3)]:=rfl
@[simp,go_sem] theorem yO:(T 107).size=3:=rfl
@[simp,go_sem] theorem yP:(T 107).bytes=40:=rfl
@[simp,go_sem] theorem yQ:(T 107).zero=[Go.Value.slice none 0 0,Go.Value.int Go.IntKind.i64 0,Go.Value.int Go.IntKind.i64 0]:=rfl
@[simp,go_sem] theorem yR:(T 109).kind=.struct [(0,9),(1,22),(2,3)]:=rfl
@[simp,go_sem] theorem yS:(T 109).size=3:=rfl
@[simp,go_sem] theorem yT:(T 109).bytes=48:=rfl
@[simp,go_sem] theorem yU:(T 109).zero=[Go.Value.string { data:=#[] },Go.Value.slice none 0 0,Go.Value.int Go.IntKind.i64 0]:=rfl
@[simp,go_sem] theorem yV:(T 114).kind=.struct [(0,3),(1,3),(2,3),(3,3),(4,4)]:=rfl
@[simp,go_sem] theorem yW:(T 114).size=5:=rfl
@[simp,go_sem] theorem yX:(T 114).bytes=40:=rfl
@[simp,go_sem] theorem yY:(T 114).zero=[Go.Value.int Go.IntKind.i64 0,Go.Value.int Go.IntKind.i64 0,Go.Value.int Go.IntKind.i64 0,Go.Value.int Go.IntKind.i64 0,Go.Value.bool false]:=rfl
@[simp,go_sem] theorem yZ:(T 114).eqs=some [(0,3),(1,3),(2,3),(3,3),(4,4)]:=rfl
@[simp,go_sem] theorem za:(T 117).kind=.other:=rfl
@[simp,go_sem] theorem zb:(T 117).size=1:=rfl
@[simp,go_sem] theorem zd:(T 117).bytes=8:=rfl
@[simp,go_sem] theorem ze:(T 117).zero=[Go.Value.nilFunc]:=rfl
@[simp,go_sem] theorem zf:(T 122).kind=.other:=rfl
@[simp,go_sem] theorem zg:(T 122).size=1:=rfl
@[simp,go_sem] theorem zh:(T 122).bytes=8:=rfl
@[simp,go_sem] theorem zi:(T 122).zero=[Go.Value.pointer none]:=rfl
@[simp,go_sem] theorem zj:(T 124).kind=.struct [(0,122),(1,35)]:=rfl
@[simp,go_sem] theorem zk:(T 124).size=2:=rfl
@[simp,go_sem] theorem zl:(T 124).bytes=32:=rfl
@[simp,go_sem] theorem zm:(T 124).zero=[Go.Value.pointer none,Go.Value.slice none 0 0]:=rfl
@[simp,go_sem] theorem zn:(T 130).kind=.other:=rfl
@[simp,go_sem] theorem zo:(T 130).size=1:=rfl
@[simp,go_sem] theorem zp:(T 130).bytes=8:=rfl
@[simp,go_sem] theorem zq:(T 130).zero=[Go.Value.nilFunc]:=rfl
@[simp,go_sem] theorem zt:(T 135).kind=.other:=rfl
@[simp,go_sem] theorem zu:(T 135).size=1:=rfl
@[simp,go_sem] theorem zw:(T 135).bytes=8:=rfl
@[simp,go_sem] theorem zx:(T 135).zero=[Go.Value.nilFunc]:=rfl
end
end Go.Proofs.Qe
