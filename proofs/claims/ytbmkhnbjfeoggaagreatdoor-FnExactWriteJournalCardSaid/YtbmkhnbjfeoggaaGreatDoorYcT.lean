/- The types of the seat,and that they fit. Made by gentypes.py. -/
import Derived.Test.YtbmkhnbjfeoggaaGreatDoorYc31
import Derived.KernelRfl
import Derived.Test.YtbmkhnbjfeoggaaGreatDoorProg
set_option linter.all false
namespace Go.Proofs.Qc
open Go
def unkTy:Ty:=⟨.unknown,0,0,[],none⟩
def ty1:Ty:=⟨.other,1,8,[Go.Value.nilFunc],none⟩
def ty2:Ty:=⟨.int .i64,1,8,[Go.Value.int Go.IntKind.i64 0],none⟩
def ty3:Ty:=⟨.int .i64,1,8,[Go.Value.int Go.IntKind.i64 0],none⟩
def ty4:Ty:=⟨.bool,1,1,[Go.Value.bool false],none⟩
def ty5:Ty:=⟨.int .u8,1,1,[Go.Value.int Go.IntKind.u8 0],none⟩
def ty6:Ty:=⟨.int .u8,1,1,[Go.Value.int Go.IntKind.u8 0],none⟩
def ty8:Ty:=⟨.struct [(0,2),(1,3),(2,4),(3,6)],4,24,[Go.Value.int Go.IntKind.i64 0,Go.Value.int Go.IntKind.i64 0,Go.Value.bool false,Go.Value.int Go.IntKind.u8 0],none⟩
def ty9:Ty:=⟨.str,1,16,[Go.Value.string { data:=#[] }],none⟩
def ty20:Ty:=⟨.other,1,16,[Go.Value.nilIface],none⟩
def ty22:Ty:=⟨.slice 154,1,24,[Go.Value.slice none 0 0],none⟩
def ty23:Ty:=⟨.slice 168,1,24,[Go.Value.slice none 0 0],none⟩
def ty25:Ty:=⟨.struct [(0,22),(1,23),(2,3)],3,56,[Go.Value.slice none 0 0,Go.Value.slice none 0 0,Go.Value.int Go.IntKind.i64 0],none⟩
def ty26:Ty:=⟨.slice 3,1,24,[Go.Value.slice none 0 0],none⟩
def ty32:Ty:=⟨.slice 114,1,24,[Go.Value.slice none 0 0],none⟩
def ty33:Ty:=⟨.slice 116,1,24,[Go.Value.slice none 0 0],none⟩
def ty35:Ty:=⟨.struct [(0,32),(1,33),(2,3)],3,56,[Go.Value.slice none 0 0,Go.Value.slice none 0 0,Go.Value.int Go.IntKind.i64 0],none⟩
def ty37:Ty:=⟨.struct [(0,26),(1,26)],2,48,[Go.Value.slice none 0 0,Go.Value.slice none 0 0],none⟩
def ty46:Ty:=⟨.slice 110,1,24,[Go.Value.slice none 0 0],none⟩
def ty48:Ty:=⟨.slice 9,1,24,[Go.Value.slice none 0 0],none⟩
def ty50:Ty:=⟨.slice 111,1,24,[Go.Value.slice none 0 0],none⟩
def ty59:Ty:=⟨.struct [(0,3),(1,26),(2,26)],3,56,[Go.Value.int Go.IntKind.i64 0,Go.Value.slice none 0 0,Go.Value.slice none 0 0],none⟩
def ty61:Ty:=⟨.struct [(0,35),(3,59),(6,4),(7,50)],8,144,[Go.Value.slice none 0 0,Go.Value.slice none 0 0,Go.Value.int Go.IntKind.i64 0,Go.Value.int Go.IntKind.i64 0,Go.Value.slice none 0 0,Go.Value.slice none 0 0,Go.Value.bool false,Go.Value.slice none 0 0],none⟩
def ty67:Ty:=⟨.struct [(0,3),(1,26),(2,26)],3,56,[Go.Value.int Go.IntKind.i64 0,Go.Value.slice none 0 0,Go.Value.slice none 0 0],none⟩
def ty69:Ty:=⟨.struct [(0,25),(3,67),(6,4),(7,46)],8,144,[Go.Value.slice none 0 0,Go.Value.slice none 0 0,Go.Value.int Go.IntKind.i64 0,Go.Value.int Go.IntKind.i64 0,Go.Value.slice none 0 0,Go.Value.slice none 0 0,Go.Value.bool false,Go.Value.slice none 0 0],none⟩
def ty74:Ty:=⟨.slice 5,1,24,[Go.Value.slice none 0 0],none⟩
def ty110:Ty:=⟨.struct [(0,3),(1,26),(2,26),(3,26)],4,80,[Go.Value.int Go.IntKind.i64 0,Go.Value.slice none 0 0,Go.Value.slice none 0 0,Go.Value.slice none 0 0],none⟩
def ty111:Ty:=⟨.struct [(0,3),(1,26),(2,26),(3,26)],4,80,[Go.Value.int Go.IntKind.i64 0,Go.Value.slice none 0 0,Go.Value.slice none 0 0,Go.Value.slice none 0 0],none⟩
def ty114:Ty:=⟨.struct [(0,9),(1,26),(2,3)],3,48,[Go.Value.string { data:=#[] },Go.Value.slice none 0 0,Go.Value.int Go.IntKind.i64 0],none⟩
def ty116:Ty:=⟨.struct [(0,3),(1,3),(2,3),(3,3),(4,4)],5,40,[Go.Value.int Go.IntKind.i64 0,Go.Value.int Go.IntKind.i64 0,Go.Value.int Go.IntKind.i64 0,Go.Value.int Go.IntKind.i64 0,Go.Value.bool false],some [(0,3),(1,3),(2,3),(3,3),(4,4)]⟩
def ty120:Ty:=⟨.other,1,8,[Go.Value.nilFunc],none⟩
def ty129:Ty:=⟨.other,1,8,[Go.Value.pointer none],none⟩
def ty131:Ty:=⟨.struct [(0,129),(1,74)],2,32,[Go.Value.pointer none,Go.Value.slice none 0 0],none⟩
def ty133:Ty:=⟨.other,1,16,[Go.Value.nilIface],none⟩
def ty138:Ty:=⟨.other,1,8,[Go.Value.pointer none],none⟩
def ty154:Ty:=⟨.struct [(0,9),(1,26),(2,3)],3,48,[Go.Value.string { data:=#[] },Go.Value.slice none 0 0,Go.Value.int Go.IntKind.i64 0],none⟩
def ty155:Ty:=⟨.slice 4,1,24,[Go.Value.slice none 0 0],none⟩
def ty168:Ty:=⟨.struct [(0,3),(1,3),(2,3),(3,3),(4,4)],5,40,[Go.Value.int Go.IntKind.i64 0,Go.Value.int Go.IntKind.i64 0,Go.Value.int Go.IntKind.i64 0,Go.Value.int Go.IntKind.i64 0,Go.Value.bool false],some [(0,3),(1,3),(2,3),(3,3),(4,4)]⟩
def ty171:Ty:=⟨.other,1,8,[Go.Value.nilFunc],none⟩
def ty179:Ty:=⟨.other,1,8,[Go.Value.nilFunc],none⟩
def ty180:Ty:=⟨.other,1,8,[Go.Value.nilFunc],none⟩
def ty188:Ty:=⟨.slice 26,1,24,[Go.Value.slice none 0 0],none⟩
def ty192:Ty:=⟨.struct [(0,74),(1,3),(2,3)],3,40,[Go.Value.slice none 0 0,Go.Value.int Go.IntKind.i64 0,Go.Value.int Go.IntKind.i64 0],none⟩
def ty200:Ty:=⟨.other,1,8,[Go.Value.pointer none],none⟩
def ty204:Ty:=⟨.other,1,8,[Go.Value.nilFunc],none⟩
def ty213:Ty:=⟨.int .u64,1,8,[Go.Value.int Go.IntKind.u64 0],none⟩
def ty223:Ty:=⟨.other,1,8,[Go.Value.nilFunc],none⟩
def ty227:Ty:=⟨.other,1,8,[Go.Value.nilFunc],none⟩
def ty242:Ty:=⟨.map 9 4,1,8,[Go.Value.map none],none⟩
def ty244:Ty:=⟨.struct [(0,35),(3,242)],4,64,[Go.Value.slice none 0 0,Go.Value.slice none 0 0,Go.Value.int Go.IntKind.i64 0,Go.Value.map none],none⟩
def ty267:Ty:=⟨.int .u32,1,4,[Go.Value.int Go.IntKind.u32 0],none⟩
def ty270:Ty:=⟨.int .u64,1,8,[Go.Value.int Go.IntKind.u64 0],none⟩
def ty286:Ty:=⟨.int .i64,1,8,[Go.Value.int Go.IntKind.i64 0],none⟩
def tys:List Ty:=[unkTy,ty1,ty2,ty3,ty4,ty5,ty6,unkTy,ty8,ty9,unkTy,unkTy,unkTy,unkTy,unkTy,unkTy,unkTy,unkTy,unkTy,unkTy,ty20,unkTy,ty22,ty23,unkTy,ty25,ty26,unkTy,unkTy,unkTy,unkTy,unkTy,ty32,ty33,unkTy,ty35,unkTy,ty37,unkTy,unkTy,unkTy,unkTy,unkTy,unkTy,unkTy,unkTy,ty46,unkTy,ty48,unkTy,ty50,unkTy,unkTy,unkTy,unkTy,unkTy,unkTy,unkTy,unkTy,ty59,unkTy,ty61,unkTy,unkTy,unkTy,unkTy,unkTy,ty67,unkTy,ty69,unkTy,unkTy,unkTy,unkTy,ty74,unkTy,unkTy,unkTy,unkTy,unkTy,unkTy,unkTy,unkTy,unkTy,unkTy,unkTy,unkTy,unkTy,unkTy,unkTy,unkTy,unkTy,unkTy,unkTy,unkTy,unkTy,unkTy,unkTy,unkTy,unkTy,unkTy,unkTy,unkTy,unkTy,unkTy,unkTy,unkTy,unkTy,unkTy,unkTy,ty110,ty111,unkTy,unkTy,ty114,unkTy,ty116,unkTy,unkTy,unkTy,ty120,unkTy,unkTy,unkTy,unkTy,unkTy,unkTy,unkTy,unkTy,ty129,unkTy,ty131,unkTy,ty133,unkTy,unkTy,unkTy,unkTy,ty138,unkTy,unkTy,unkTy,unkTy,unkTy,unkTy,unkTy,unkTy,unkTy,unkTy,unkTy,unkTy,unkTy,unkTy,unkTy,ty154,ty155,unkTy,unkTy,unkTy,unkTy,unkTy,unkTy,unkTy,unkTy,unkTy,unkTy,unkTy,unkTy,ty168,unkTy,unkTy,ty171,unkTy,unkTy,unkTy,unkTy,unkTy,unkTy,unkTy,ty179,ty180,unkTy,unkTy,unkTy,unkTy,unkTy,unkTy,unkTy,ty188,unkTy,unkTy,unkTy,ty192,unkTy,unkTy,unkTy,unkTy,unkTy,unkTy,unkTy,ty200,unkTy,unkTy,unkTy,ty204,unkTy,unkTy,unkTy,unkTy,unkTy,unkTy,unkTy,unkTy,ty213,unkTy,unkTy,unkTy,unkTy,unkTy,unkTy,unkTy,unkTy,unkTy,ty223,unkTy,unkTy,unkTy,ty227,unkTy,unkTy,unkTy,unkTy,unkTy,unkTy,unkTy,unkTy,unkTy,unkTy,unkTy,unkTy,unkTy,unkTy,ty242,unkTy,ty244,unkTy,unkTy,unkTy,unkTy,unkTy,unkTy,unkTy,unkTy,unkTy,unkTy,unkTy,unkTy,unkTy,unkTy,unkTy,unkTy,unkTy,unkTy,unkTy,unkTy,unkTy,unkTy,ty267,unkTy,unkTy,ty270,unkTy,unkTy,unkTy,unkTy,unkTy,unkTy,unkTy,unkTy,unkTy,unkTy,unkTy,unkTy,unkTy,unkTy,unkTy,ty286]
def T (t:Nat):Ty:=tys.getD t unkTy
inductive bc (P:Program):Nat→List Ty→Prop
 | nil (k:Nat):bc P k []
 | cons {k:Nat} {ty:Ty} {l:List Ty} (h:TyOk P k ty) (r:bc P (k+1) l):bc P k (ty::l)
theorem bc.get {P:Program}:∀ {l:List Ty} {k:Nat},bc P k l→∀ i,TyOk P (k+i) (l.getD i unkTy)
 | _,_,.nil _,i=>by simp [unkTy,TyOk]
 | _,_,.cons h r,0=>h
 | _,_,.cons (k:=k) h r,i+1=>by
  have:=r.get i
  rw [show k+1+i=k+(i+1) by omega] at this
  simpa using this
theorem ah (P:Program)(t:Nat):TyOk P t unkTy:=by simp [unkTy,TyOk]
theorem aG {P:Program}{t:Nat}{ty:Ty}{i:TypeInfo}{z:Value}(hs:t<P.types.size)(h1:P.types[t]?=some i)(h2:i.zero=some z)(h:i.size=ty.size∧i.bytes=ty.bytes∧z.cells.toList=ty.zero∧ty.zero.length=ty.size)(h3:ty.zero.all (fun v=>v.oneCell')=true)(h4:cD P t ty.kind)(h5:∀ fs,ty.eqs=some fs→∃ fields:Array Field,P.underlying t=some (.struct fields)∧fields.toList.map (fun f=>(f.offset,f.type))=fs∧(∀ f,f∈fields.toList→f.name ≠ "_")∧P.stoodInHeld t=false∧P.eqGuardType P.depth t=false):TyOk P t ty:=by
 unfold TyOk
 split
 ·trivial
 ·exact ⟨⟨i,z,(by unfold Tables.info?;rw [if_pos hs];exact h1),h.1,h.2.1,h2,h.2.2.1,h.2.2.2⟩,fun v hv=>List.all_eq_true.1 h3 v hv,h4,h5⟩
theorem Nu:TyOk Tryz.prog 1 ty1:=aG (i:=Tryz.t1) (by rw [Tryz.types_size];decide) Tryz.type1 rfl ⟨rfl,rfl,rfl,rfl⟩ rfl (by exact ⟨_,Tryz.underlying1,rfl⟩) (by intro fs h;cases h)
theorem Nv:TyOk Tryz.prog 2 ty2:=aG (i:=Tryz.t2) (by rw [Tryz.types_size];decide) Tryz.type2 rfl ⟨rfl,rfl,rfl,rfl⟩ rfl (by exact Tryz.underlying2) (by intro fs h;cases h)
theorem Nw:TyOk Tryz.prog 3 ty3:=aG (i:=Tryz.t3) (by rw [Tryz.types_size];decide) Tryz.type3 rfl ⟨rfl,rfl,rfl,rfl⟩ rfl (by exact Tryz.underlying3) (by intro fs h;cases h)
theorem Nx:TyOk Tryz.prog 4 ty4:=aG (i:=Tryz.t4) (by rw [Tryz.types_size];decide) Tryz.type4 rfl ⟨rfl,rfl,rfl,rfl⟩ rfl (by exact Tryz.underlying4) (by intro fs h;cases h)
theorem Ny:TyOk Tryz.prog 5 ty5:=aG (i:=Tryz.t5) (by rw [Tryz.types_size];decide) Tryz.type5 rfl ⟨rfl,rfl,rfl,rfl⟩ rfl (by exact Tryz.underlying5) (by intro fs h;cases h)
theorem Nz:TyOk Tryz.prog 6 ty6:=aG (i:=Tryz.t6) (by rw [Tryz.types_size];decide) Tryz.type6 rfl ⟨rfl,rfl,rfl,rfl⟩ rfl (by exact Tryz.underlying6) (by intro fs h;cases h)
theorem NA:TyOk Tryz.prog 8 ty8:=aG (i:=Tryz.t8) (by rw [Tryz.types_size];decide) Tryz.type8 rfl ⟨rfl,rfl,rfl,rfl⟩ rfl (by exact ⟨_,Tryz.underlying8,rfl⟩) (by intro fs h;cases h)
theorem NB:TyOk Tryz.prog 9 ty9:=aG (i:=Tryz.t9) (by rw [Tryz.types_size];decide) Tryz.type9 rfl ⟨rfl,rfl,rfl,rfl⟩ rfl (by exact Tryz.underlying9) (by intro fs h;cases h)
theorem Mr:TyOk Tryz.prog 20 ty20:=aG (i:=Tryz.t20) (by rw [Tryz.types_size];decide) Tryz.type20 rfl ⟨rfl,rfl,rfl,rfl⟩ rfl (by exact ⟨_,Tryz.underlying20,rfl⟩) (by intro fs h;cases h)
theorem Ms:TyOk Tryz.prog 22 ty22:=aG (i:=Tryz.t22) (by rw [Tryz.types_size];decide) Tryz.type22 rfl ⟨rfl,rfl,rfl,rfl⟩ rfl (by exact Tryz.underlying22) (by intro fs h;cases h)
theorem Mt:TyOk Tryz.prog 23 ty23:=aG (i:=Tryz.t23) (by rw [Tryz.types_size];decide) Tryz.type23 rfl ⟨rfl,rfl,rfl,rfl⟩ rfl (by exact Tryz.underlying23) (by intro fs h;cases h)
theorem Mu:TyOk Tryz.prog 25 ty25:=aG (i:=Tryz.t25) (by rw [Tryz.types_size];decide) Tryz.type25 rfl ⟨rfl,rfl,rfl,rfl⟩ rfl (by exact ⟨_,Tryz.underlying25,rfl⟩) (by intro fs h;cases h)
theorem Mv:TyOk Tryz.prog 26 ty26:=aG (i:=Tryz.t26) (by rw [Tryz.types_size];decide) Tryz.type26 rfl ⟨rfl,rfl,rfl,rfl⟩ rfl (by exact Tryz.underlying26) (by intro fs h;cases h)
theorem Mw:TyOk Tryz.prog 32 ty32:=aG (i:=Tryz.t32) (by rw [Tryz.types_size];decide) Tryz.type32 rfl ⟨rfl,rfl,rfl,rfl⟩ rfl (by exact Tryz.underlying32) (by intro fs h;cases h)
theorem Mx:TyOk Tryz.prog 33 ty33:=aG (i:=Tryz.t33) (by rw [Tryz.types_size];decide) Tryz.type33 rfl ⟨rfl,rfl,rfl,rfl⟩ rfl (by exact Tryz.underlying33) (by intro fs h;cases h)
theorem My:TyOk Tryz.prog 35 ty35:=aG (i:=Tryz.t35) (by rw [Tryz.types_size];decide) Tryz.type35 rfl ⟨rfl,rfl,rfl,rfl⟩ rfl (by exact ⟨_,Tryz.underlying35,rfl⟩) (by intro fs h;cases h)
theorem Mz:TyOk Tryz.prog 37 ty37:=aG (i:=Tryz.t37) (by rw [Tryz.types_size];decide) Tryz.type37 rfl ⟨rfl,rfl,rfl,rfl⟩ rfl (by exact ⟨_,Tryz.underlying37,rfl⟩) (by intro fs h;cases h)
theorem MA:TyOk Tryz.prog 46 ty46:=aG (i:=Tryz.t46) (by rw [Tryz.types_size];decide) Tryz.type46 rfl ⟨rfl,rfl,rfl,rfl⟩ rfl (by exact Tryz.underlying46) (by intro fs h;cases h)
theorem MB:TyOk Tryz.prog 48 ty48:=aG (i:=Tryz.t48) (by rw [Tryz.types_size];decide) Tryz.type48 rfl ⟨rfl,rfl,rfl,rfl⟩ rfl (by exact Tryz.underlying48) (by intro fs h;cases h)
theorem MD:TyOk Tryz.prog 50 ty50:=aG (i:=Tryz.t50) (by rw [Tryz.types_size];decide) Tryz.type50 rfl ⟨rfl,rfl,rfl,rfl⟩ rfl (by exact Tryz.underlying50) (by intro fs h;cases h)
theorem ME:TyOk Tryz.prog 59 ty59:=aG (i:=Tryz.t59) (by rw [Tryz.types_size];decide) Tryz.type59 rfl ⟨rfl,rfl,rfl,rfl⟩ rfl (by exact ⟨_,Tryz.underlying59,rfl⟩) (by intro fs h;cases h)
theorem MF:TyOk Tryz.prog 61 ty61:=aG (i:=Tryz.t61) (by rw [Tryz.types_size];decide) Tryz.type61 rfl ⟨rfl,rfl,rfl,rfl⟩ rfl (by exact ⟨_,Tryz.underlying61,rfl⟩) (by intro fs h;cases h)
theorem MG:TyOk Tryz.prog 67 ty67:=aG (i:=Tryz.t67) (by rw [Tryz.types_size];decide) Tryz.type67 rfl ⟨rfl,rfl,rfl,rfl⟩ rfl (by exact ⟨_,Tryz.underlying67,rfl⟩) (by intro fs h;cases h)
theorem MH:TyOk Tryz.prog 69 ty69:=aG (i:=Tryz.t69) (by rw [Tryz.types_size];decide) Tryz.type69 rfl ⟨rfl,rfl,rfl,rfl⟩ rfl (by exact ⟨_,Tryz.underlying69,rfl⟩) (by intro fs h;cases h)
theorem MI:TyOk Tryz.prog 74 ty74:=aG (i:=Tryz.t74) (by rw [Tryz.types_size];decide) Tryz.type74 rfl ⟨rfl,rfl,rfl,rfl⟩ rfl (by exact Tryz.underlying74) (by intro fs h;cases h)
theorem JN:TyOk Tryz.prog 110 ty110:=aG (i:=Tryz.t110) (by rw [Tryz.types_size];decide) Tryz.type110 rfl ⟨rfl,rfl,rfl,rfl⟩ rfl (by exact ⟨_,Tryz.underlying110,rfl⟩) (by intro fs h;cases h)
theorem JO:TyOk Tryz.prog 111 ty111:=aG (i:=Tryz.t111) (by rw [Tryz.types_size];decide) Tryz.type111 rfl ⟨rfl,rfl,rfl,rfl⟩ rfl (by exact ⟨_,Tryz.underlying111,rfl⟩) (by intro fs h;cases h)
theorem JP:TyOk Tryz.prog 114 ty114:=aG (i:=Tryz.t114) (by rw [Tryz.types_size];decide) Tryz.type114 rfl ⟨rfl,rfl,rfl,rfl⟩ rfl (by exact ⟨_,Tryz.underlying114,rfl⟩) (by intro fs h;cases h)
theorem JQ:TyOk Tryz.prog 116 ty116:=aG (i:=Tryz.t116) (by rw [Tryz.types_size];decide) Tryz.type116 rfl ⟨rfl,rfl,rfl,rfl⟩ rfl (by exact ⟨_,Tryz.underlying116,rfl⟩) (by intro fs h;cases h;exact ⟨_,Tryz.underlying116,rfl,by decide,by kernel_rfl,by kernel_rfl⟩)
theorem JR:TyOk Tryz.prog 120 ty120:=aG (i:=Tryz.t120) (by rw [Tryz.types_size];decide) Tryz.type120 rfl ⟨rfl,rfl,rfl,rfl⟩ rfl (by exact ⟨_,Tryz.underlying120,rfl⟩) (by intro fs h;cases h)
theorem JS:TyOk Tryz.prog 129 ty129:=aG (i:=Tryz.t129) (by rw [Tryz.types_size];decide) Tryz.type129 rfl ⟨rfl,rfl,rfl,rfl⟩ rfl (by exact ⟨_,Tryz.underlying129,rfl⟩) (by intro fs h;cases h)
theorem JT:TyOk Tryz.prog 131 ty131:=aG (i:=Tryz.t131) (by rw [Tryz.types_size];decide) Tryz.type131 rfl ⟨rfl,rfl,rfl,rfl⟩ rfl (by exact ⟨_,Tryz.underlying131,rfl⟩) (by intro fs h;cases h)
theorem JU:TyOk Tryz.prog 133 ty133:=aG (i:=Tryz.t133) (by rw [Tryz.types_size];decide) Tryz.type133 rfl ⟨rfl,rfl,rfl,rfl⟩ rfl (by exact ⟨_,Tryz.underlying133,rfl⟩) (by intro fs h;cases h)
theorem JV:TyOk Tryz.prog 138 ty138:=aG (i:=Tryz.t138) (by rw [Tryz.types_size];decide) Tryz.type138 rfl ⟨rfl,rfl,rfl,rfl⟩ rfl (by exact ⟨_,Tryz.underlying138,rfl⟩) (by intro fs h;cases h)
theorem JW:TyOk Tryz.prog 154 ty154:=aG (i:=Tryz.t154) (by rw [Tryz.types_size];decide) Tryz.type154 rfl ⟨rfl,rfl,rfl,rfl⟩ rfl (by exact ⟨_,Tryz.underlying154,rfl⟩) (by intro fs h;cases h)
theorem JX:TyOk Tryz.prog 155 ty155:=aG (i:=Tryz.t155) (by rw [Tryz.types_size];decide) Tryz.type155 rfl ⟨rfl,rfl,rfl,rfl⟩ rfl (by exact Tryz.underlying155) (by intro fs h;cases h)
theorem JY:TyOk Tryz.prog 168 ty168:=aG (i:=Tryz.t168) (by rw [Tryz.types_size];decide) Tryz.type168 rfl ⟨rfl,rfl,rfl,rfl⟩ rfl (by exact ⟨_,Tryz.underlying168,rfl⟩) (by intro fs h;cases h;exact ⟨_,Tryz.underlying168,rfl,by decide,by kernel_rfl,by kernel_rfl⟩)
theorem JZ:TyOk Tryz.prog 171 ty171:=aG (i:=Tryz.t171) (by rw [Tryz.types_size];decide) Tryz.type171 rfl ⟨rfl,rfl,rfl,rfl⟩ rfl (by exact ⟨_,Tryz.underlying171,rfl⟩) (by intro fs h;cases h)
theorem Ka:TyOk Tryz.prog 179 ty179:=aG (i:=Tryz.t179) (by rw [Tryz.types_size];decide) Tryz.type179 rfl ⟨rfl,rfl,rfl,rfl⟩ rfl (by exact ⟨_,Tryz.underlying179,rfl⟩) (by intro fs h;cases h)
theorem Kb:TyOk Tryz.prog 180 ty180:=aG (i:=Tryz.t180) (by rw [Tryz.types_size];decide) Tryz.type180 rfl ⟨rfl,rfl,rfl,rfl⟩ rfl (by exact ⟨_,Tryz.underlying180,rfl⟩) (by intro fs h;cases h)
theorem Kc:TyOk Tryz.prog 188 ty188:=aG (i:=Tryz.t188) (by rw [Tryz.types_size];decide) Tryz.type188 rfl ⟨rfl,rfl,rfl,rfl⟩ rfl (by exact Tryz.underlying188) (by intro fs h;cases h)
theorem Kd:TyOk Tryz.prog 192 ty192:=aG (i:=Tryz.t192) (by rw [Tryz.types_size];decide) Tryz.type192 rfl ⟨rfl,rfl,rfl,rfl⟩ rfl (by exact ⟨_,Tryz.underlying192,rfl⟩) (by intro fs h;cases h)
theorem Ke:TyOk Tryz.prog 200 ty200:=aG (i:=Tryz.t200) (by rw [Tryz.types_size];decide) Tryz.type200 rfl ⟨rfl,rfl,rfl,rfl⟩ rfl (by exact ⟨_,Tryz.underlying200,rfl⟩) (by intro fs h;cases h)
theorem Kf:TyOk Tryz.prog 204 ty204:=aG (i:=Tryz.t204) (by rw [Tryz.types_size];decide) Tryz.type204 rfl ⟨rfl,rfl,rfl,rfl⟩ rfl (by exact ⟨_,Tryz.underlying204,rfl⟩) (by intro fs h;cases h)
theorem Kg:TyOk Tryz.prog 213 ty213:=aG (i:=Tryz.t213) (by rw [Tryz.types_size];decide) Tryz.type213 rfl ⟨rfl,rfl,rfl,rfl⟩ rfl (by exact Tryz.underlying213) (by intro fs h;cases h)
theorem Kh:TyOk Tryz.prog 223 ty223:=aG (i:=Tryz.t223) (by rw [Tryz.types_size];decide) Tryz.type223 rfl ⟨rfl,rfl,rfl,rfl⟩ rfl (by exact ⟨_,Tryz.underlying223,rfl⟩) (by intro fs h;cases h)
theorem Ki:TyOk Tryz.prog 227 ty227:=aG (i:=Tryz.t227) (by rw [Tryz.types_size];decide) Tryz.type227 rfl ⟨rfl,rfl,rfl,rfl⟩ rfl (by exact ⟨_,Tryz.underlying227,rfl⟩) (by intro fs h;cases h)
theorem Kj:TyOk Tryz.prog 242 ty242:=aG (i:=Tryz.t242) (by rw [Tryz.types_size];decide) Tryz.type242 rfl ⟨rfl,rfl,rfl,rfl⟩ rfl (by exact Tryz.underlying242) (by intro fs h;cases h)
theorem Kk:TyOk Tryz.prog 244 ty244:=aG (i:=Tryz.t244) (by rw [Tryz.types_size];decide) Tryz.type244 rfl ⟨rfl,rfl,rfl,rfl⟩ rfl (by exact ⟨_,Tryz.underlying244,rfl⟩) (by intro fs h;cases h)
theorem Kl:TyOk Tryz.prog 267 ty267:=aG (i:=Tryz.t267) (by rw [Tryz.types_size];decide) Tryz.type267 rfl ⟨rfl,rfl,rfl,rfl⟩ rfl (by exact Tryz.underlying267) (by intro fs h;cases h)
theorem Km:TyOk Tryz.prog 270 ty270:=aG (i:=Tryz.t270) (by rw [Tryz.types_size];decide) Tryz.type270 rfl ⟨rfl,rfl,rfl,rfl⟩ rfl (by exact Tryz.underlying270) (by intro fs h;cases h)
theorem Kn:TyOk Tryz.prog 286 ty286:=aG (i:=Tryz.t286) (by rw [Tryz.types_size];decide) Tryz.type286 rfl ⟨rfl,rfl,rfl,rfl⟩ rfl (by exact Tryz.underlying286) (by intro fs h;cases h)
theorem MJ {l:List Ty}(r:bc Tryz.prog 16 l):bc Tryz.prog 0 (unkTy::ty1::ty2::ty3::ty4::ty5::ty6::unkTy::ty8::ty9::unkTy::unkTy::unkTy::unkTy::unkTy::unkTy::l):=
 .cons (ah _ _) (.cons Nu (.cons Nv (.cons Nw (.cons Nx (.cons Ny (.cons Nz (.cons (ah _ _) (.cons NA (.cons NB (.cons (ah _ _) (.cons (ah _ _) (.cons (ah _ _) (.cons (ah _ _) (.cons (ah _ _) (.cons (ah _ _) (r))))))))))))))))
theorem Ko {l:List Ty}(r:bc Tryz.prog 32 l):bc Tryz.prog 16 (unkTy::unkTy::unkTy::unkTy::ty20::unkTy::ty22::ty23::unkTy::ty25::ty26::unkTy::unkTy::unkTy::unkTy::unkTy::l):=
 .cons (ah _ _) (.cons (ah _ _) (.cons (ah _ _) (.cons (ah _ _) (.cons Mr (.cons (ah _ _) (.cons Ms (.cons Mt (.cons (ah _ _) (.cons Mu (.cons Mv (.cons (ah _ _) (.cons (ah _ _) (.cons (ah _ _) (.cons (ah _ _) (.cons (ah _ _) (r))))))))))))))))
theorem Kq {l:List Ty}(r:bc Tryz.prog 48 l):bc Tryz.prog 32 (ty32::ty33::unkTy::ty35::unkTy::ty37::unkTy::unkTy::unkTy::unkTy::unkTy::unkTy::unkTy::unkTy::ty46::unkTy::l):=
 .cons Mw (.cons Mx (.cons (ah _ _) (.cons My (.cons (ah _ _) (.cons Mz (.cons (ah _ _) (.cons (ah _ _) (.cons (ah _ _) (.cons (ah _ _) (.cons (ah _ _) (.cons (ah _ _) (.cons (ah _ _) (.cons (ah _ _) (.cons MA (.cons (ah _ _) (r))))))))))))))))
theorem Kr {l:List Ty}(r:bc Tryz.prog 64 l):bc Tryz.prog 48 (ty48::unkTy::ty50::unkTy::unkTy::unkTy::unkTy::unkTy::unkTy::unkTy::unkTy::ty59::unkTy::ty61::unkTy::unkTy::l):=
 .cons MB (.cons (ah _ _) (.cons MD (.cons (ah _ _) (.cons (ah _ _) (.cons (ah _ _) (.cons (ah _ _) (.cons (ah _ _) (.cons (ah _ _) (.cons (ah _ _) (.cons (ah _ _) (.cons ME (.cons (ah _ _) (.cons MF (.cons (ah _ _) (.cons (ah _ _) (r))))))))))))))))
theorem Ks {l:List Ty}(r:bc Tryz.prog 80 l):bc Tryz.prog 64 (unkTy::unkTy::unkTy::ty67::unkTy::ty69::unkTy::unkTy::unkTy::unkTy::ty74::unkTy::unkTy::unkTy::unkTy::unkTy::l):=
 .cons (ah _ _) (.cons (ah _ _) (.cons (ah _ _) (.cons MG (.cons (ah _ _) (.cons MH (.cons (ah _ _) (.cons (ah _ _) (.cons (ah _ _) (.cons (ah _ _) (.cons MI (.cons (ah _ _) (.cons (ah _ _) (.cons (ah _ _) (.cons (ah _ _) (.cons (ah _ _) (r))))))))))))))))
theorem Kt {l:List Ty}(r:bc Tryz.prog 96 l):bc Tryz.prog 80 (unkTy::unkTy::unkTy::unkTy::unkTy::unkTy::unkTy::unkTy::unkTy::unkTy::unkTy::unkTy::unkTy::unkTy::unkTy::unkTy::l):=
 .cons (ah _ _) (.cons (ah _ _) (.cons (ah _ _) (.cons (ah _ _) (.cons (ah _ _) (.cons (ah _ _) (.cons (ah _ _) (.cons (ah _ _) (.cons (ah _ _) (.cons (ah _ _) (.cons (ah _ _) (.cons (ah _ _) (.cons (ah _ _) (.cons (ah _ _) (.cons (ah _ _) (.cons (ah _ _) (r))))))))))))))))
theorem Ku {l:List Ty}(r:bc Tryz.prog 112 l):bc Tryz.prog 96 (unkTy::unkTy::unkTy::unkTy::unkTy::unkTy::unkTy::unkTy::unkTy::unkTy::unkTy::unkTy::unkTy::unkTy::ty110::ty111::l):=
 .cons (ah _ _) (.cons (ah _ _) (.cons (ah _ _) (.cons (ah _ _) (.cons (ah _ _) (.cons (ah _ _) (.cons (ah _ _) (.cons (ah _ _) (.cons (ah _ _) (.cons (ah _ _) (.cons (ah _ _) (.cons (ah _ _) (.cons (ah _ _) (.cons (ah _ _) (.cons JN (.cons JO (r))))))))))))))))
theorem Is {l:List Ty}(r:bc Tryz.prog 128 l):bc Tryz.prog 112 (unkTy::unkTy::ty114::unkTy::ty116::unkTy::unkTy::unkTy::ty120::unkTy::unkTy::unkTy::unkTy::unkTy::unkTy::unkTy::l):=
 .cons (ah _ _) (.cons (ah _ _) (.cons JP (.cons (ah _ _) (.cons JQ (.cons (ah _ _) (.cons (ah _ _) (.cons (ah _ _) (.cons JR (.cons (ah _ _) (.cons (ah _ _) (.cons (ah _ _) (.cons (ah _ _) (.cons (ah _ _) (.cons (ah _ _) (.cons (ah _ _) (r))))))))))))))))
theorem It {l:List Ty}(r:bc Tryz.prog 144 l):bc Tryz.prog 128 (unkTy::ty129::unkTy::ty131::unkTy::ty133::unkTy::unkTy::unkTy::unkTy::ty138::unkTy::unkTy::unkTy::unkTy::unkTy::l):=
 .cons (ah _ _) (.cons JS (.cons (ah _ _) (.cons JT (.cons (ah _ _) (.cons JU (.cons (ah _ _) (.cons (ah _ _) (.cons (ah _ _) (.cons (ah _ _) (.cons JV (.cons (ah _ _) (.cons (ah _ _) (.cons (ah _ _) (.cons (ah _ _) (.cons (ah _ _) (r))))))))))))))))
theorem Iu {l:List Ty}(r:bc Tryz.prog 160 l):bc Tryz.prog 144 (unkTy::unkTy::unkTy::unkTy::unkTy::unkTy::unkTy::unkTy::unkTy::unkTy::ty154::ty155::unkTy::unkTy::unkTy::unkTy::l):=
 .cons (ah _ _) (.cons (ah _ _) (.cons (ah _ _) (.cons (ah _ _) (.cons (ah _ _) (.cons (ah _ _) (.cons (ah _ _) (.cons (ah _ _) (.cons (ah _ _) (.cons (ah _ _) (.cons JW (.cons JX (.cons (ah _ _) (.cons (ah _ _) (.cons (ah _ _) (.cons (ah _ _) (r))))))))))))))))
theorem Iv {l:List Ty}(r:bc Tryz.prog 176 l):bc Tryz.prog 160 (unkTy::unkTy::unkTy::unkTy::unkTy::unkTy::unkTy::unkTy::ty168::unkTy::unkTy::ty171::unkTy::unkTy::unkTy::unkTy::l):=
 .cons (ah _ _) (.cons (ah _ _) (.cons (ah _ _) (.cons (ah _ _) (.cons (ah _ _) (.cons (ah _ _) (.cons (ah _ _) (.cons (ah _ _) (.cons JY (.cons (ah _ _) (.cons (ah _ _) (.cons JZ (.cons (ah _ _) (.cons (ah _ _) (.cons (ah _ _) (.cons (ah _ _) (r))))))))))))))))
theorem Iw {l:List Ty}(r:bc Tryz.prog 192 l):bc Tryz.prog 176 (unkTy::unkTy::unkTy::ty179::ty180::unkTy::unkTy::unkTy::unkTy::unkTy::unkTy::unkTy::ty188::unkTy::unkTy::unkTy::l):=
 .cons (ah _ _) (.cons (ah _ _) (.cons (ah _ _) (.cons Ka (.cons Kb (.cons (ah _ _) (.cons (ah _ _) (.cons (ah _ _) (.cons (ah _ _) (.cons (ah _ _) (.cons (ah _ _) (.cons (ah _ _) (.cons Kc (.cons (ah _ _) (.cons (ah _ _) (.cons (ah _ _) (r))))))))))))))))
theorem Ix {l:List Ty}(r:bc Tryz.prog 208 l):bc Tryz.prog 192 (ty192::unkTy::unkTy::unkTy::unkTy::unkTy::unkTy::unkTy::ty200::unkTy::unkTy::unkTy::ty204::unkTy::unkTy::unkTy::l):=
 .cons Kd (.cons (ah _ _) (.cons (ah _ _) (.cons (ah _ _) (.cons (ah _ _) (.cons (ah _ _) (.cons (ah _ _) (.cons (ah _ _) (.cons Ke (.cons (ah _ _) (.cons (ah _ _) (.cons (ah _ _) (.cons Kf (.cons (ah _ _) (.cons (ah _ _) (.cons (ah _ _) (r))))))))))))))))
theorem Iy {l:List Ty}(r:bc Tryz.prog 224 l):bc Tryz.prog 208 (unkTy::unkTy::unkTy::unkTy::unkTy::ty213::unkTy::unkTy::unkTy::unkTy::unkTy::unkTy::unkTy::unkTy::unkTy::ty223::l):=
 .cons (ah _ _) (.cons (ah _ _) (.cons (ah _ _) (.cons (ah _ _) (.cons (ah _ _) (.cons Kg (.cons (ah _ _) (.cons (ah _ _) (.cons (ah _ _) (.cons (ah _ _) (.cons (ah _ _) (.cons (ah _ _) (.cons (ah _ _) (.cons (ah _ _) (.cons (ah _ _) (.cons Kh (r))))))))))))))))
theorem Iz {l:List Ty}(r:bc Tryz.prog 240 l):bc Tryz.prog 224 (unkTy::unkTy::unkTy::ty227::unkTy::unkTy::unkTy::unkTy::unkTy::unkTy::unkTy::unkTy::unkTy::unkTy::unkTy::unkTy::l):=
 .cons (ah _ _) (.cons (ah _ _) (.cons (ah _ _) (.cons Ki (.cons (ah _ _) (.cons (ah _ _) (.cons (ah _ _) (.cons (ah _ _) (.cons (ah _ _) (.cons (ah _ _) (.cons (ah _ _) (.cons (ah _ _) (.cons (ah _ _) (.cons (ah _ _) (.cons (ah _ _) (.cons (ah _ _) (r))))))))))))))))
theorem IA {l:List Ty}(r:bc Tryz.prog 256 l):bc Tryz.prog 240 (unkTy::unkTy::ty242::unkTy::ty244::unkTy::unkTy::unkTy::unkTy::unkTy::unkTy::unkTy::unkTy::unkTy::unkTy::unkTy::l):=
 .cons (ah _ _) (.cons (ah _ _) (.cons Kj (.cons (ah _ _) (.cons Kk (.cons (ah _ _) (.cons (ah _ _) (.cons (ah _ _) (.cons (ah _ _) (.cons (ah _ _) (.cons (ah _ _) (.cons (ah _ _) (.cons (ah _ _) (.cons (ah _ _) (.cons (ah _ _) (.cons (ah _ _) (r))))))))))))))))
theorem IB {l:List Ty}(r:bc Tryz.prog 272 l):bc Tryz.prog 256 (unkTy::unkTy::unkTy::unkTy::unkTy::unkTy::unkTy::unkTy::unkTy::unkTy::unkTy::ty267::unkTy::unkTy::ty270::unkTy::l):=
 .cons (ah _ _) (.cons (ah _ _) (.cons (ah _ _) (.cons (ah _ _) (.cons (ah _ _) (.cons (ah _ _) (.cons (ah _ _) (.cons (ah _ _) (.cons (ah _ _) (.cons (ah _ _) (.cons (ah _ _) (.cons Kl (.cons (ah _ _) (.cons (ah _ _) (.cons Km (.cons (ah _ _) (r))))))))))))))))
theorem IC {l:List Ty}(r:bc Tryz.prog 287 l):bc Tryz.prog 272 (unkTy::unkTy::unkTy::unkTy::unkTy::unkTy::unkTy::unkTy::unkTy::unkTy::unkTy::unkTy::unkTy::unkTy::ty286::l):=
 .cons (ah _ _) (.cons (ah _ _) (.cons (ah _ _) (.cons (ah _ _) (.cons (ah _ _) (.cons (ah _ _) (.cons (ah _ _) (.cons (ah _ _) (.cons (ah _ _) (.cons (ah _ _) (.cons (ah _ _) (.cons (ah _ _) (.cons (ah _ _) (.cons (ah _ _) (.cons Kn (r)))))))))))))))
theorem hT (t:Nat):TyOk Tryz.prog t (T t):=by
 have h:bc Tryz.prog 0 tys:=MJ (Ko (Kq (Kr (Ks (Kt (Ku (Is (It (Iu (Iv (Iw (Ix (Iy (Iz (IA (IB (IC (.nil _))))))))))))))))))
 have:=h.get t
 rw [Nat.zero_add] at this
 exact this
section
open TK
@[simp,go_sem] theorem Tk1:(T 1).kind=.other:=rfl
@[simp,go_sem] theorem Ts1:(T 1).size=1:=rfl
@[simp,go_sem] theorem Tb1:(T 1).bytes=8:=rfl
@[simp,go_sem] theorem Tz1:(T 1).zero=[Go.Value.nilFunc]:=rfl
@[simp,go_sem] theorem Tk2:(T 2).kind=.int .i64:=rfl
@[simp,go_sem] theorem Ts2:(T 2).size=1:=rfl
@[simp,go_sem] theorem Tb2:(T 2).bytes=8:=rfl
@[simp,go_sem] theorem Tz2:(T 2).zero=[Go.Value.int Go.IntKind.i64 0]:=rfl
@[simp,go_sem] theorem Tk3:(T 3).kind=.int .i64:=rfl
@[simp,go_sem] theorem Ts3:(T 3).size=1:=rfl
@[simp,go_sem] theorem Tb3:(T 3).bytes=8:=rfl
@[simp,go_sem] theorem Tz3:(T 3).zero=[Go.Value.int Go.IntKind.i64 0]:=rfl
@[simp,go_sem] theorem Tk4:(T 4).kind=.bool:=rfl
@[simp,go_sem] theorem Ts4:(T 4).size=1:=rfl
@[simp,go_sem] theorem Tb4:(T 4).bytes=1:=rfl
@[simp,go_sem] theorem Tz4:(T 4).zero=[Go.Value.bool false]:=rfl
@[simp,go_sem] theorem Tk5:(T 5).kind=.int .u8:=rfl
@[simp,go_sem] theorem Ts5:(T 5).size=1:=rfl
@[simp,go_sem] theorem Tb5:(T 5).bytes=1:=rfl
@[simp,go_sem] theorem Tz5:(T 5).zero=[Go.Value.int Go.IntKind.u8 0]:=rfl
@[simp,go_sem] theorem Tk6:(T 6).kind=.int .u8:=rfl
@[simp,go_sem] theorem Ts6:(T 6).size=1:=rfl
@[simp,go_sem] theorem Tb6:(T 6).bytes=1:=rfl
@[simp,go_sem] theorem Tz6:(T 6).zero=[Go.Value.int Go.IntKind.u8 0]:=rfl
@[simp,go_sem] theorem Tk8:(T 8).kind=.struct [(0,2),(1,3),(2,4),(3,6)]:=rfl
@[simp,go_sem] theorem Ts8:(T 8).size=4:=rfl
@[simp,go_sem] theorem Tb8:(T 8).bytes=24:=rfl
@[simp,go_sem] theorem Tz8:(T 8).zero=[Go.Value.int Go.IntKind.i64 0,Go.Value.int Go.IntKind.i64 0,Go.Value.bool false,Go.Value.int Go.IntKind.u8 0]:=rfl
@[simp,go_sem] theorem Tk9:(T 9).kind=.str:=rfl
@[simp,go_sem] theorem Ts9:(T 9).size=1:=rfl
@[simp,go_sem] theorem Tb9:(T 9).bytes=16:=rfl
@[simp,go_sem] theorem Tz9:(T 9).zero=[Go.Value.string { data:=#[] }]:=rfl
@[simp,go_sem] theorem Tk20:(T 20).kind=.other:=rfl
@[simp,go_sem] theorem Ts20:(T 20).size=1:=rfl
@[simp,go_sem] theorem Tb20:(T 20).bytes=16:=rfl
@[simp,go_sem] theorem Tz20:(T 20).zero=[Go.Value.nilIface]:=rfl
@[simp,go_sem] theorem Tk22:(T 22).kind=.slice 154:=rfl
@[simp,go_sem] theorem Ts22:(T 22).size=1:=rfl
@[simp,go_sem] theorem Tb22:(T 22).bytes=24:=rfl
@[simp,go_sem] theorem Tz22:(T 22).zero=[Go.Value.slice none 0 0]:=rfl
@[simp,go_sem] theorem Tk23:(T 23).kind=.slice 168:=rfl
@[simp,go_sem] theorem Ts23:(T 23).size=1:=rfl
@[simp,go_sem] theorem Tb23:(T 23).bytes=24:=rfl
@[simp,go_sem] theorem Tz23:(T 23).zero=[Go.Value.slice none 0 0]:=rfl
@[simp,go_sem] theorem Tk25:(T 25).kind=.struct [(0,22),(1,23),(2,3)]:=rfl
@[simp,go_sem] theorem Ts25:(T 25).size=3:=rfl
@[simp,go_sem] theorem Tb25:(T 25).bytes=56:=rfl
@[simp,go_sem] theorem Tz25:(T 25).zero=[Go.Value.slice none 0 0,Go.Value.slice none 0 0,Go.Value.int Go.IntKind.i64 0]:=rfl
@[simp,go_sem] theorem Tk26:(T 26).kind=.slice 3:=rfl
@[simp,go_sem] theorem Ts26:(T 26).size=1:=rfl
@[simp,go_sem] theorem Tb26:(T 26).bytes=24:=rfl
@[simp,go_sem] theorem Tz26:(T 26).zero=[Go.Value.slice none 0 0]:=rfl
@[simp,go_sem] theorem Tk32:(T 32).kind=.slice 114:=rfl
@[simp,go_sem] theorem Ts32:(T 32).size=1:=rfl
@[simp,go_sem] theorem Tb32:(T 32).bytes=24:=rfl
@[simp,go_sem] theorem Tz32:(T 32).zero=[Go.Value.slice none 0 0]:=rfl
@[simp,go_sem] theorem Tk33:(T 33).kind=.slice 116:=rfl
@[simp,go_sem] theorem Ts33:(T 33).size=1:=rfl
@[simp,go_sem] theorem Tb33:(T 33).bytes=24:=rfl
@[simp,go_sem] theorem Tz33:(T 33).zero=[Go.Value.slice none 0 0]:=rfl
@[simp,go_sem] theorem Tk35:(T 35).kind=.struct [(0,32),(1,33),(2,3)]:=rfl
@[simp,go_sem] theorem Ts35:(T 35).size=3:=rfl
@[simp,go_sem] theorem Tb35:(T 35).bytes=56:=rfl
@[simp,go_sem] theorem Tz35:(T 35).zero=[Go.Value.slice none 0 0,Go.Value.slice none 0 0,Go.Value.int Go.IntKind.i64 0]:=rfl
@[simp,go_sem] theorem Tk37:(T 37).kind=.struct [(0,26),(1,26)]:=rfl
@[simp,go_sem] theorem Ts37:(T 37).size=2:=rfl
@[simp,go_sem] theorem Tb37:(T 37).bytes=48:=rfl
@[simp,go_sem] theorem Tz37:(T 37).zero=[Go.Value.slice none 0 0,Go.Value.slice none 0 0]:=rfl
@[simp,go_sem] theorem Tk46:(T 46).kind=.slice 110:=rfl
@[simp,go_sem] theorem Ts46:(T 46).size=1:=rfl
@[simp,go_sem] theorem Tb46:(T 46).bytes=24:=rfl
@[simp,go_sem] theorem Tz46:(T 46).zero=[Go.Value.slice none 0 0]:=rfl
@[simp,go_sem] theorem Tk48:(T 48).kind=.slice 9:=rfl
@[simp,go_sem] theorem Ts48:(T 48).size=1:=rfl
@[simp,go_sem] theorem Tb48:(T 48).bytes=24:=rfl
@[simp,go_sem] theorem Tz48:(T 48).zero=[Go.Value.slice none 0 0]:=rfl
@[simp,go_sem] theorem Tk50:(T 50).kind=.slice 111:=rfl
@[simp,go_sem] theorem Ts50:(T 50).size=1:=rfl
@[simp,go_sem] theorem Tb50:(T 50).bytes=24:=rfl
@[simp,go_sem] theorem Tz50:(T 50).zero=[Go.Value.slice none 0 0]:=rfl
@[simp,go_sem] theorem Tk59:(T 59).kind=.struct [(0,3),(1,26),(2,26)]:=rfl
@[simp,go_sem] theorem Ts59:(T 59).size=3:=rfl
@[simp,go_sem] theorem Tb59:(T 59).bytes=56:=rfl
@[simp,go_sem] theorem Tz59:(T 59).zero=[Go.Value.int Go.IntKind.i64 0,Go.Value.slice none 0 0,Go.Value.slice none 0 0]:=rfl
@[simp,go_sem] theorem Tk61:(T 61).kind=.struct [(0,35),(3,59),(6,4),(7,50)]:=rfl
@[simp,go_sem] theorem Ts61:(T 61).size=8:=rfl
@[simp,go_sem] theorem Tb61:(T 61).bytes=144:=rfl
@[simp,go_sem] theorem Tz61:(T 61).zero=[Go.Value.slice none 0 0,Go.Value.slice none 0 0,Go.Value.int Go.IntKind.i64 0,Go.Value.int Go.IntKind.i64 0,Go.Value.slice none 0 0,Go.Value.slice none 0 0,Go.Value.bool false,Go.Value.slice none 0 0]:=rfl
@[simp,go_sem] theorem Tk67:(T 67).kind=.struct [(0,3),(1,26),(2,26)]:=rfl
@[simp,go_sem] theorem Ts67:(T 67).size=3:=rfl
@[simp,go_sem] theorem Tb67:(T 67).bytes=56:=rfl
@[simp,go_sem] theorem Tz67:(T 67).zero=[Go.Value.int Go.IntKind.i64 0,Go.Value.slice none 0 0,Go.Value.slice none 0 0]:=rfl
@[simp,go_sem] theorem Tk69:(T 69).kind=.struct [(0,25),(3,67),(6,4),(7,46)]:=rfl
@[simp,go_sem] theorem Ts69:(T 69).size=8:=rfl
@[simp,go_sem] theorem Tb69:(T 69).bytes=144:=rfl
@[simp,go_sem] theorem Tz69:(T 69).zero=[Go.Value.slice none 0 0,Go.Value.slice none 0 0,Go.Value.int Go.IntKind.i64 0,Go.Value.int Go.IntKind.i64 0,Go.Value.slice none 0 0,Go.Value.slice none 0 0,Go.Value.bool false,Go.Value.slice none 0 0]:=rfl
@[simp,go_sem] theorem Tk74:(T 74).kind=.slice 5:=rfl
@[simp,go_sem] theorem Ts74:(T 74).size=1:=rfl
@[simp,go_sem] theorem Tb74:(T 74).bytes=24:=rfl
@[simp,go_sem] theorem Tz74:(T 74).zero=[Go.Value.slice none 0 0]:=rfl
@[simp,go_sem] theorem ST:(T 110).kind=.struct [(0,3),(1,26),(2,26),(3,26)]:=rfl
@[simp,go_sem] theorem SU:(T 110).size=4:=rfl
@[simp,go_sem] theorem SV:(T 110).bytes=80:=rfl
@[simp,go_sem] theorem SW:(T 110).zero=[Go.Value.int Go.IntKind.i64 0,Go.Value.slice none 0 0,Go.Value.slice none 0 0,Go.Value.slice none 0 0]:=rfl
@[simp,go_sem] theorem SX:(T 111).kind=.struct [(0,3),(1,26),(2,26),(3,26)]:=rfl
@[simp,go_sem] theorem SY:(T 111).size=4:=rfl
@[simp,go_sem] theorem SZ:(T 111).bytes=80:=rfl
@[simp,go_sem] theorem Ta:(T 111).zero=[Go.Value.int Go.IntKind.i64 0,Go.Value.slice none 0 0,Go.Value.slice none 0 0,Go.Value.slice none 0 0]:=rfl
@[simp,go_sem] theorem Tb:(T 114).kind=.struct [(0,9),(1,26),(2,3)]:=rfl
@[simp,go_sem] theorem Tc:(T 114).size=3:=rfl
@[simp,go_sem] theorem Td:(T 114).bytes=48:=rfl
@[simp,go_sem] theorem Te:(T 114).zero=[Go.Value.string { data:=#[] },Go.Value.slice none 0 0,Go.Value.int Go.IntKind.i64 0]:=rfl
@[simp,go_sem] theorem Tf:(T 116).kind=.struct [(0,3),(1,3),(2,3),(3,3),(4,4)]:=rfl
@[simp,go_sem] theorem Tg:(T 116).size=5:=rfl
@[simp,go_sem] theorem Th:(T 116).bytes=40:=rfl
@[simp,go_sem] theorem Ti:(T 116).zero=[Go.Value.int Go.IntKind.i64 0,Go.Value.int Go.IntKind.i64 0,Go.Value.int Go.IntKind.i64 0,Go.Value.int Go.IntKind.i64 0,Go.Value.bool false]:=rfl
@[simp,go_sem] theorem Tj:(T 116).eqs=some [(0,3),(1,3),(2,3),(3,3),(4,4)]:=rfl
@[simp,go_sem] theorem Tk:(T 120).kind=.other:=rfl
@[simp,go_sem] theorem Tl:(T 120).size=1:=rfl
@[simp,go_sem] theorem Tm:(T 120).bytes=8:=rfl
@[simp,go_sem] theorem Tn:(T 120).zero=[Go.Value.nilFunc]:=rfl
@[simp,go_sem] theorem To:(T 129).kind=.other:=rfl
@[simp,go_sem] theorem Tp:(T 129).size=1:=rfl
@[simp,go_sem] theorem Tq:(T 129).bytes=8:=rfl
@[simp,go_sem] theorem Tr:(T 129).zero=[Go.Value.pointer none]:=rfl
@[simp,go_sem] theorem Ts:(T 131).kind=.struct [(0,129),(1,74)]:=rfl
@[simp,go_sem] theorem Tt:(T 131).size=2:=rfl
@[simp,go_sem] theorem Tu:(T 131).bytes=32:=rfl
@[simp,go_sem] theorem Tv:(T 131).zero=[Go.Value.pointer none,Go.Value.slice none 0 0]:=rfl
@[simp,go_sem] theorem Tw:(T 133).kind=.other:=rfl
@[simp,go_sem] theorem Tx:(T 133).size=1:=rfl
@[simp,go_sem] theorem Tz:(T 133).bytes=16:=rfl
@[simp,go_sem] theorem TA:(T 133).zero=[Go.Value.nilIface]:=rfl
@[simp,go_sem] theorem TB:(T 138).kind=.other:=rfl
@[simp,go_sem] theorem TC:(T 138).size=1:=rfl
@[simp,go_sem] theorem TD:(T 138).bytes=8:=rfl
@[simp,go_sem] theorem TE:(T 138).zero=[Go.Value.pointer none]:=rfl
@[simp,go_sem] theorem TF:(T 154).kind=.struct [(0,9),(1,26),(2,3)]:=rfl
@[simp,go_sem] theorem TG:(T 154).size=3:=rfl
@[simp,go_sem] theorem TH:(T 154).bytes=48:=rfl
@[simp,go_sem] theorem TJ:(T 154).zero=[Go.Value.string { data:=#[] },Go.Value.slice none 0 0,Go.Value.int Go.IntKind.i64 0]:=rfl
@[simp,go_sem] theorem TL:(T 155).kind=.slice 4:=rfl
@[simp,go_sem] theorem TM:(T 155).size=1:=rfl
@[simp,go_sem] theorem TN:(T 155).bytes=24:=rfl
@[simp,go_sem] theorem TO:(T 155).zero=[Go.Value.slice none 0 0]:=rfl
@[simp,go_sem] theorem TP:(T 168).kind=.struct [(0,3),(1,3),(2,3),(3,3),(4,4)]:=rfl
@[simp,go_sem] theorem TQ:(T 168).size=5:=rfl
@[simp,go_sem] theorem TR:(T 168).bytes=40:=rfl
@[simp,go_sem] theorem TS:(T 168).zero=[Go.Value.int Go.IntKind.i64 0,Go.Value.int Go.IntKind.i64 0,Go.Value.int Go.IntKind.i64 0,Go.Value.int Go.IntKind.i64 0,Go.Value.bool false]:=rfl
@[simp,go_sem] theorem TT:(T 168).eqs=some [(0,3),(1,3),(2,3),(3,3),(4,4)]:=rfl
@[simp,go_sem] theorem TU:(T 171).kind=.other:=rfl
@[simp,go_sem] theorem TV:(T 171).size=1:=rfl
@[simp,go_sem] theorem TW:(T 171).bytes=8:=rfl
@[simp,go_sem] theorem TX:(T 171).zero=[Go.Value.nilFunc]:=rfl
@[simp,go_sem] theorem TY:(T 179).kind=.other:=rfl
@[simp,go_sem] theorem TZ:(T 179).size=1:=rfl
@[simp,go_sem] theorem Ua:(T 179).bytes=8:=rfl
@[simp,go_sem] theorem Ub:(T 179).zero=[Go.Value.nilFunc]:=rfl
@[simp,go_sem] theorem Uc:(T 180).kind=.other:=rfl
@[simp,go_sem] theorem Ud:(T 180).size=1:=rfl
@[simp,go_sem] theorem Ue:(T 180).bytes=8:=rfl
@[simp,go_sem] theorem Uf:(T 180).zero=[Go.Value.nilFunc]:=rfl
@[simp,go_sem] theorem Ug:(T 188).kind=.slice 26:=rfl
@[simp,go_sem] theorem Uh:(T 188).size=1:=rfl
@[simp,go_sem] theorem Ui:(T 188).bytes=24:=rfl
@[simp,go_sem] theorem Uj:(T 188).zero=[Go.Value.slice none 0 0]:=rfl
@[simp,go_sem] theorem Uk:(T 192).kind=.struct [(0,74),(1,3),(2,3)]:=rfl
@[simp,go_sem] theorem Ul:(T 192).size=3:=rfl
@[simp,go_sem] theorem Um:(T 192).bytes=40:=rfl
@[simp,go_sem] theorem Un:(T 192).zero=[Go.Value.slice none 0 0,Go.Value.int Go.IntKind.i64 0,Go.Value.int Go.IntKind.i64 0]:=rfl
@[simp,go_sem] theorem Uo:(T 200).kind=.other:=rfl
@[simp,go_sem] theorem Up:(T 200).size=1:=rfl
@[simp,go_sem] theorem Uq:(T 200).bytes=8:=rfl
@[simp,go_sem] theorem Ur:(T 200).zero=[Go.Value.pointer none]:=rfl
@[simp,go_sem] theorem Us:(T 204).kind=.other:=rfl
@[simp,go_sem] theorem Ut:(T 204).size=1:=rfl
@[simp,go_sem] theorem Uu:(T 204).bytes=8:=rfl
@[simp,go_sem] theorem Uv:(T 204).zero=[Go.Value.nilFunc]:=rfl
@[simp,go_sem] theorem Uw:(T 213).kind=.int .u64:=rfl
@[simp,go_sem] theorem Ux:(T 213).size=1:=rfl
@[simp,go_sem] theorem Uy:(T 213).bytes=8:=rfl
@[simp,go_sem] theorem Uz:(T 213).zero=[Go.Value.int Go.IntKind.u64 0]:=rfl
@[simp,go_sem] theorem UA:(T 223).kind=.other:=rfl
@[simp,go_sem] theorem UB:(T 223).size=1:=rfl
@[simp,go_sem] theorem UC:(T 223).bytes=8:=rfl
@[simp,go_sem] theorem UD:(T 223).zero=[Go.Value.nilFunc]:=rfl
@[simp,go_sem] theorem UE:(T 227).kind=.other:=rfl
@[simp,go_sem] theorem UF:(T 227).size=1:=rfl
@[simp,go_sem] theorem UG:(T 227).bytes=8:=rfl
@[simp,go_sem] theorem UH:(T 227).zero=[Go.Value.nilFunc]:=rfl
@[simp,go_sem] theorem UI:(T 242).kind=.map 9 4:=rfl
@[simp,go_sem] theorem UJ:(T 242).size=1:=rfl
@[simp,go_sem] theorem UK:(T 242).bytes=8:=rfl
@[simp,go_sem] theorem UL:(T 242).zero=[Go.Value.map none]:=rfl
@[simp,go_sem] theorem UM:(T 244).kind=.struct [(0,35),(3,242)]:=rfl
@[simp,go_sem] theorem UN:(T 244).size=4:=rfl
@[simp,go_sem] theorem UO:(T 244).bytes=64:=rfl
@[simp,go_sem] theorem UP:(T 244).zero=[Go.Value.slice none 0 0,Go.Value.slice none 0 0,Go.Value.int Go.IntKind.i64 0,Go.Value.map none]:=rfl
@[simp,go_sem] theorem UQ:(T 267).kind=.int .u32:=rfl
@[simp,go_sem] theorem UR:(T 267).size=1:=rfl
@[simp,go_sem] theorem US:(T 267).bytes=4:=rfl
@[simp,go_sem] theorem UT:(T 267).zero=[Go.Value.int Go.IntKind.u32 0]:=rfl
@[simp,go_sem] theorem UU:(T 270).kind=.int .u64:=rfl
@[simp,go_sem] theorem UV:(T 270).size=1:=rfl
@[simp,go_sem] theorem UW:(T 270).bytes=8:=rfl
@[simp,go_sem] theorem UX:(T 270).zero=[Go.Value.int Go.IntKind.u64 0]:=rfl
@[simp,go_sem] theorem UY:(T 286).kind=.int .i64:=rfl
@[simp,go_sem] theorem UZ:(T 286).size=1:=rfl
@[simp,go_sem] theorem Va:(T 286).bytes=8:=rfl
@[simp,go_sem] theorem Vb:(T 286).zero=[Go.Value.int Go.IntKind.i64 0]:=rfl
end
end Go.Proofs.Qc
