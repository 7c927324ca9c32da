/- The types of the seat,and that they fit. Made by gentypes.py. -/
import Derived.Test.YtbmkhnbjfeoggaaGreatDoorYa31
import Derived.KernelRfl
import Derived.Test.YtbmkhnbjfeoggaaGreatDoorProg
set_option linter.all false
namespace Go.Proofs.Qa
open Go
def unkTy:Ty:=⟨.unknown,0,0,[],none⟩
def ty1:Ty:=⟨.other,1,8,[Go.Value.nilFunc],none⟩
def ty2:Ty:=⟨.int .i64,1,8,[Go.Value.int Go.IntKind.i64 0],none⟩
def ty3:Ty:=⟨.int .i64,1,8,[Go.Value.int Go.IntKind.i64 0],none⟩
def ty4:Ty:=⟨.bool,1,1,[Go.Value.bool false],none⟩
def ty5:Ty:=⟨.int .u8,1,1,[Go.Value.int Go.IntKind.u8 0],none⟩
def ty6:Ty:=⟨.int .u8,1,1,[Go.Value.int Go.IntKind.u8 0],none⟩
def ty8:Ty:=⟨.struct [(0,2),(1,3),(2,4),(3,6)],4,24,[Go.Value.int Go.IntKind.i64 0,Go.Value.int Go.IntKind.i64 0,Go.Value.bool false,Go.Value.int Go.IntKind.u8 0],none⟩
def ty9:Ty:=⟨.str,1,16,[Go.Value.string { data:=#[] }],none⟩
def ty20:Ty:=⟨.other,1,16,[Go.Value.nilIface],none⟩
def ty22:Ty:=⟨.slice 154,1,24,[Go.Value.slice none 0 0],none⟩
def ty23:Ty:=⟨.slice 168,1,24,[Go.Value.slice none 0 0],none⟩
def ty25:Ty:=⟨.struct [(0,22),(1,23),(2,3)],3,56,[Go.Value.slice none 0 0,Go.Value.slice none 0 0,Go.Value.int Go.IntKind.i64 0],none⟩
def ty26:Ty:=⟨.slice 3,1,24,[Go.Value.slice none 0 0],none⟩
def ty32:Ty:=⟨.slice 114,1,24,[Go.Value.slice none 0 0],none⟩
def ty33:Ty:=⟨.slice 116,1,24,[Go.Value.slice none 0 0],none⟩
def ty35:Ty:=⟨.struct [(0,32),(1,33),(2,3)],3,56,[Go.Value.slice none 0 0,Go.Value.slice none 0 0,Go.Value.int Go.IntKind.i64 0],none⟩
def ty37:Ty:=⟨.struct [(0,26),(1,26)],2,48,[Go.Value.slice none 0 0,Go.Value.slice none 0 0],none⟩
def ty46:Ty:=⟨.slice 110,1,24,[Go.Value.slice none 0 0],none⟩
def ty48:Ty:=⟨.slice 9,1,24,[Go.Value.slice none 0 0],none⟩
def ty50:Ty:=⟨.slice 111,1,24,[Go.Value.slice none 0 0],none⟩
def ty59:Ty:=⟨.struct [(0,3),(1,26),(2,26)],3,56,[Go.Value.int Go.IntKind.i64 0,Go.Value.slice none 0 0,Go.Value.slice none 0 0],none⟩
def ty61:Ty:=⟨.struct [(0,35),(3,59),(6,4),(7,50)],8,144,[Go.Value.slice none 0 0,Go.Value.slice none 0 0,Go.Value.int Go.IntKind.i64 0,Go.Value.int Go.IntKind.i64 0,Go.Value.slice none 0 0,Go.Value.slice none 0 0,Go.Value.bool false,Go.Value.slice none 0 0],none⟩
def ty67:Ty:=⟨.struct [(0,3),(1,26),(2,26)],3,56,[Go.Value.int Go.IntKind.i64 0,Go.Value.slice none 0 0,Go.Value.slice none 0 0],none⟩
def ty69:Ty:=⟨.struct [(0,25),(3,67),(6,4),(7,46)],8,144,[Go.Value.slice none 0 0,Go.Value.slice none 0 0,Go.Value.int Go.IntKind.i64 0,Go.Value.int Go.IntKind.i64 0,Go.Value.slice none 0 0,Go.Value.slice none 0 0,Go.Value.bool false,Go.Value.slice none 0 0],none⟩
def ty74:Ty:=⟨.slice 5,1,24,[Go.Value.slice none 0 0],none⟩
def ty110:Ty:=⟨.struct [(0,3),(1,26),(2,26),(3,26)],4,80,[Go.Value.int Go.IntKind.i64 0,Go.Value.slice none 0 0,Go.Value.slice none 0 0,Go.Value.slice none 0 0],none⟩
def ty111:Ty:=⟨.struct [(0,3),(1,26),(2,26),(3,26)],4,80,[Go.Value.int Go.IntKind.i64 0,Go.Value.slice none 0 0,Go.Value.slice none 0 0,Go.Value.slice none 0 0],none⟩
def ty114:Ty:=⟨.struct [(0,9),(1,26),(2,3)],3,48,[Go.Value.string { data:=#[] },Go.Value.slice none 0 0,Go.Value.int Go.IntKind.i64 0],none⟩
def ty116:Ty:=⟨.struct [(0,3),(1,3),(2,3),(3,3),(4,4)],5,40,[Go.Value.int Go.IntKind.i64 0,Go.Value.int Go.IntKind.i64 0,Go.Value.int Go.IntKind.i64 0,Go.Value.int Go.IntKind.i64 0,Go.Value.bool false],some [(0,3),(1,3),(2,3),(3,3),(4,4)]⟩
def ty120:Ty:=⟨.other,1,8,[Go.Value.nilFunc],none⟩
def ty129:Ty:=⟨.other,1,8,[Go.Value.pointer none],none⟩
def ty131:Ty:=⟨.struct [(0,129),(1,74)],2,32,[Go.Value.pointer none,Go.Value.slice none 0 0],none⟩
def ty133:Ty:=⟨.other,1,16,[Go.Value.nilIface],none⟩
def ty138:Ty:=⟨.other,1,8,[Go.Value.pointer none],none⟩
def ty154:Ty:=⟨.struct [(0,9),(1,26),(2,3)],3,48,[Go.Value.string { data:=#[] },Go.Value.slice none 0 0,Go.Value.int Go.IntKind.i64 0],none⟩
def ty155:Ty:=⟨.slice 4,1,24,[Go.Value.slice none 0 0],none⟩
def ty168:Ty:=⟨.struct [(0,3),(1,3),(2,3),(3,3),(4,4)],5,40,[Go.Value.int Go.IntKind.i64 0,Go.Value.int Go.IntKind.i64 0,Go.Value.int Go.IntKind.i64 0,Go.Value.int Go.IntKind.i64 0,Go.Value.bool false],some [(0,3),(1,3),(2,3),(3,3),(4,4)]⟩
def ty171:Ty:=⟨.other,1,8,[Go.Value.nilFunc],none⟩
def ty179:Ty:=⟨.other,1,8,[Go.Value.nilFunc],none⟩
def ty180:Ty:=⟨.other,1,8,[Go.Value.nilFunc],none⟩
def ty188:Ty:=⟨.slice 26,1,24,[Go.Value.slice none 0 0],none⟩
def ty192:Ty:=⟨.struct [(0,74),(1,3),(2,3)],3,40,[Go.Value.slice none 0 0,Go.Value.int Go.IntKind.i64 0,Go.Value.int Go.IntKind.i64 0],none⟩
def ty200:Ty:=⟨.other,1,8,[Go.Value.pointer none],none⟩
def ty204:Ty:=⟨.other,1,8,[Go.Value.nilFunc],none⟩
def ty213:Ty:=⟨.int .u64,1,8,[Go.Value.int Go.IntKind.u64 0],none⟩
def ty223:Ty:=⟨.other,1,8,[Go.Value.nilFunc],none⟩
def ty227:Ty:=⟨.other,1,8,[Go.Value.nilFunc],none⟩
def ty242:Ty:=⟨.map 9 4,1,8,[Go.Value.map none],none⟩
def ty244:Ty:=⟨.struct [(0,35),(3,242)],4,64,[Go.Value.slice none 0 0,Go.Value.slice none 0 0,Go.Value.int Go.IntKind.i64 0,Go.Value.map none],none⟩
def ty267:Ty:=⟨.int .u32,1,4,[Go.Value.int Go.IntKind.u32 0],none⟩
def ty270:Ty:=⟨.int .u64,1,8,[Go.Value.int Go.IntKind.u64 0],none⟩
def ty286:Ty:=⟨.int .i64,1,8,[Go.Value.int Go.IntKind.i64 0],none⟩
def tys:List Ty:=[unkTy,ty1,ty2,ty3,ty4,ty5,ty6,unkTy,ty8,ty9,unkTy,unkTy,unkTy,unkTy,unkTy,unkTy,unkTy,unkTy,unkTy,unkTy,ty20,unkTy,ty22,ty23,unkTy,ty25,ty26,unkTy,unkTy,unkTy,unkTy,unkTy,ty32,ty33,unkTy,ty35,unkTy,ty37,unkTy,unkTy,unkTy,unkTy,unkTy,unkTy,unkTy,unkTy,ty46,unkTy,ty48,unkTy,ty50,unkTy,unkTy,unkTy,unkTy,unkTy,unkTy,unkTy,unkTy,ty59,unkTy,ty61,unkTy,unkTy,unkTy,unkTy,unkTy,ty67,unkTy,ty69,unkTy,unkTy,unkTy,unkTy,ty74,unkTy,unkTy,unkTy,unkTy,unkTy,unkTy,unkTy,unkTy,unkTy,unkTy,unkTy,unkTy,unkTy,unkTy,unkTy,unkTy,unkTy,unkTy,unkTy,unkTy,unkTy,unkTy,unkTy,unkTy,unkTy,unkTy,unkTy,unkTy,unkTy,unkTy,unkTy,unkTy,unkTy,unkTy,unkTy,ty110,ty111,unkTy,unkTy,ty114,unkTy,ty116,unkTy,unkTy,unkTy,ty120,unkTy,unkTy,unkTy,unkTy,unkTy,unkTy,unkTy,unkTy,ty129,unkTy,ty131,unkTy,ty133,unkTy,unkTy,unkTy,unkTy,ty138,unkTy,unkTy,unkTy,unkTy,unkTy,unkTy,unkTy,unkTy,unkTy,unkTy,unkTy,unkTy,unkTy,unkTy,unkTy,ty154,ty155,unkTy,unkTy,unkTy,unkTy,unkTy,unkTy,unkTy,unkTy,unkTy,unkTy,unkTy,unkTy,ty168,unkTy,unkTy,ty171,unkTy,unkTy,unkTy,unkTy,unkTy,unkTy,unkTy,ty179,ty180,unkTy,unkTy,unkTy,unkTy,unkTy,unkTy,unkTy,ty188,unkTy,unkTy,unkTy,ty192,unkTy,unkTy,unkTy,unkTy,unkTy,unkTy,unkTy,ty200,unkTy,unkTy,unkTy,ty204,unkTy,unkTy,unkTy,unkTy,unkTy,unkTy,unkTy,unkTy,ty213,unkTy,unkTy,unkTy,unkTy,unkTy,unkTy,unkTy,unkTy,unkTy,ty223,unkTy,unkTy,unkTy,ty227,unkTy,unkTy,unkTy,unkTy,unkTy,unkTy,unkTy,unkTy,unkTy,unkTy,unkTy,unkTy,unkTy,unkTy,ty242,unkTy,ty244,unkTy,unkTy,unkTy,unkTy,unkTy,unkTy,unkTy,unkTy,unkTy,unkTy,unkTy,unkTy,unkTy,unkTy,unkTy,unkTy,unkTy,unkTy,unkTy,unkTy,unkTy,unkTy,ty267,unkTy,unkTy,ty270,unkTy,unkTy,unkTy,unkTy,unkTy,unkTy,unkTy,unkTy,unkTy,unkTy,unkTy,unkTy,unkTy,unkTy,unkTy,ty286]
def T (t:Nat):Ty:=tys.getD t unkTy
inductive bd (P:Program):Nat→List Ty→Prop
 | nil (k:Nat):bd P k []
 | cons {k:Nat} {ty:Ty} {l:List Ty} (h:TyOk P k ty) (r:bd P (k+1) l):bd P k (ty::l)
theorem bd.get {P:Program}:∀ {l:List Ty} {k:Nat},bd P k l→∀ i,TyOk P (k+i) (l.getD i unkTy)
 | _,_,.nil _,i=>by simp [unkTy,TyOk]
 | _,_,.cons h r,0=>h
 | _,_,.cons (k:=k) h r,i+1=>by
  have:=r.get i
  rw [show k+1+i=k+(i+1) by omega] at this
  simpa using this
theorem ah (P:Program)(t:Nat):TyOk P t unkTy:=by simp [unkTy,TyOk]
theorem aH {P:Program}{t:Nat}{ty:Ty}{i:TypeInfo}{z:Value}(hs:t<P.types.size)(h1:P.types[t]?=some i)(h2:i.zero=some z)(h:i.size=ty.size∧i.bytes=ty.bytes∧z.cells.toList=ty.zero∧ty.zero.length=ty.size)(h3:ty.zero.all (fun v=>v.oneCell')=true)(h4:cG P t ty.kind)(h5:∀ fs,ty.eqs=some fs→∃ fields:Array Field,P.underlying t=some (.struct fields)∧fields.toList.map (fun f=>(f.offset,f.type))=fs∧(∀ f,f∈fields.toList→f.name ≠ "_")∧P.stoodInHeld t=false∧P.eqGuardType P.depth t=false):TyOk P t ty:=by
 unfold TyOk
 split
 ·trivial
 ·exact ⟨⟨i,z,(by unfold Tables.info?;rw [if_pos hs];exact h1),h.1,h.2.1,h2,h.2.2.1,h.2.2.2⟩,fun v hv=>List.all_eq_true.1 h3 v hv,h4,h5⟩
theorem Py:TyOk Tryz.prog 1 ty1:=aH (i:=Tryz.t1) (by rw [Tryz.types_size];decide) Tryz.type1 rfl ⟨rfl,rfl,rfl,rfl⟩ rfl (by exact ⟨_,Tryz.underlying1,rfl⟩) (by intro fs h;cases h)
theorem Pz:TyOk Tryz.prog 2 ty2:=aH (i:=Tryz.t2) (by rw [Tryz.types_size];decide) Tryz.type2 rfl ⟨rfl,rfl,rfl,rfl⟩ rfl (by exact Tryz.underlying2) (by intro fs h;cases h)
theorem PA:TyOk Tryz.prog 3 ty3:=aH (i:=Tryz.t3) (by rw [Tryz.types_size];decide) Tryz.type3 rfl ⟨rfl,rfl,rfl,rfl⟩ rfl (by exact Tryz.underlying3) (by intro fs h;cases h)
theorem PB:TyOk Tryz.prog 4 ty4:=aH (i:=Tryz.t4) (by rw [Tryz.types_size];decide) Tryz.type4 rfl ⟨rfl,rfl,rfl,rfl⟩ rfl (by exact Tryz.underlying4) (by intro fs h;cases h)
theorem PC:TyOk Tryz.prog 5 ty5:=aH (i:=Tryz.t5) (by rw [Tryz.types_size];decide) Tryz.type5 rfl ⟨rfl,rfl,rfl,rfl⟩ rfl (by exact Tryz.underlying5) (by intro fs h;cases h)
theorem PD:TyOk Tryz.prog 6 ty6:=aH (i:=Tryz.t6) (by rw [Tryz.types_size];decide) Tryz.type6 rfl ⟨rfl,rfl,rfl,rfl⟩ rfl (by exact Tryz.underlying6) (by intro fs h;cases h)
theorem PE:TyOk Tryz.prog 8 ty8:=aH (i:=Tryz.t8) (by rw [Tryz.types_size];decide) Tryz.type8 rfl ⟨rfl,rfl,rfl,rfl⟩ rfl (by exact ⟨_,Tryz.underlying8,rfl⟩) (by intro fs h;cases h)
theorem PF:TyOk Tryz.prog 9 ty9:=aH (i:=Tryz.t9) (by rw [Tryz.types_size];decide) Tryz.type9 rfl ⟨rfl,rfl,rfl,rfl⟩ rfl (by exact Tryz.underlying9) (by intro fs h;cases h)
theorem Oy:TyOk Tryz.prog 20 ty20:=aH (i:=Tryz.t20) (by rw [Tryz.types_size];decide) Tryz.type20 rfl ⟨rfl,rfl,rfl,rfl⟩ rfl (by exact ⟨_,Tryz.underlying20,rfl⟩) (by intro fs h;cases h)
theorem Oz:TyOk Tryz.prog 22 ty22:=aH (i:=Tryz.t22) (by rw [Tryz.types_size];decide) Tryz.type22 rfl ⟨rfl,rfl,rfl,rfl⟩ rfl (by exact Tryz.underlying22) (by intro fs h;cases h)
theorem OA:TyOk Tryz.prog 23 ty23:=aH (i:=Tryz.t23) (by rw [Tryz.types_size];decide) Tryz.type23 rfl ⟨rfl,rfl,rfl,rfl⟩ rfl (by exact Tryz.underlying23) (by intro fs h;cases h)
theorem OB:TyOk Tryz.prog 25 ty25:=aH (i:=Tryz.t25) (by rw [Tryz.types_size];decide) Tryz.type25 rfl ⟨rfl,rfl,rfl,rfl⟩ rfl (by exact ⟨_,Tryz.underlying25,rfl⟩) (by intro fs h;cases h)
theorem OC:TyOk Tryz.prog 26 ty26:=aH (i:=Tryz.t26) (by rw [Tryz.types_size];decide) Tryz.type26 rfl ⟨rfl,rfl,rfl,rfl⟩ rfl (by exact Tryz.underlying26) (by intro fs h;cases h)
theorem OD:TyOk Tryz.prog 32 ty32:=aH (i:=Tryz.t32) (by rw [Tryz.types_size];decide) Tryz.type32 rfl ⟨rfl,rfl,rfl,rfl⟩ rfl (by exact Tryz.underlying32) (by intro fs h;cases h)
theorem OE:TyOk Tryz.prog 33 ty33:=aH (i:=Tryz.t33) (by rw [Tryz.types_size];decide) Tryz.type33 rfl ⟨rfl,rfl,rfl,rfl⟩ rfl (by exact Tryz.underlying33) (by intro fs h;cases h)
theorem OF:TyOk Tryz.prog 35 ty35:=aH (i:=Tryz.t35) (by rw [Tryz.types_size];decide) Tryz.type35 rfl ⟨rfl,rfl,rfl,rfl⟩ rfl (by exact ⟨_,Tryz.underlying35,rfl⟩) (by intro fs h;cases h)
theorem OG:TyOk Tryz.prog 37 ty37:=aH (i:=Tryz.t37) (by rw [Tryz.types_size];decide) Tryz.type37 rfl ⟨rfl,rfl,rfl,rfl⟩ rfl (by exact ⟨_,Tryz.underlying37,rfl⟩) (by intro fs h;cases h)
theorem OH:TyOk Tryz.prog 46 ty46:=aH (i:=Tryz.t46) (by rw [Tryz.types_size];decide) Tryz.type46 rfl ⟨rfl,rfl,rfl,rfl⟩ rfl (by exact Tryz.underlying46) (by intro fs h;cases h)
theorem OI:TyOk Tryz.prog 48 ty48:=aH (i:=Tryz.t48) (by rw [Tryz.types_size];decide) Tryz.type48 rfl ⟨rfl,rfl,rfl,rfl⟩ rfl (by exact Tryz.underlying48) (by intro fs h;cases h)
theorem OJ:TyOk Tryz.prog 50 ty50:=aH (i:=Tryz.t50) (by rw [Tryz.types_size];decide) Tryz.type50 rfl ⟨rfl,rfl,rfl,rfl⟩ rfl (by exact Tryz.underlying50) (by intro fs h;cases h)
theorem OK:TyOk Tryz.prog 59 ty59:=aH (i:=Tryz.t59) (by rw [Tryz.types_size];decide) Tryz.type59 rfl ⟨rfl,rfl,rfl,rfl⟩ rfl (by exact ⟨_,Tryz.underlying59,rfl⟩) (by intro fs h;cases h)
theorem OL:TyOk Tryz.prog 61 ty61:=aH (i:=Tryz.t61) (by rw [Tryz.types_size];decide) Tryz.type61 rfl ⟨rfl,rfl,rfl,rfl⟩ rfl (by exact ⟨_,Tryz.underlying61,rfl⟩) (by intro fs h;cases h)
theorem OM:TyOk Tryz.prog 67 ty67:=aH (i:=Tryz.t67) (by rw [Tryz.types_size];decide) Tryz.type67 rfl ⟨rfl,rfl,rfl,rfl⟩ rfl (by exact ⟨_,Tryz.underlying67,rfl⟩) (by intro fs h;cases h)
theorem ON:TyOk Tryz.prog 69 ty69:=aH (i:=Tryz.t69) (by rw [Tryz.types_size];decide) Tryz.type69 rfl ⟨rfl,rfl,rfl,rfl⟩ rfl (by exact ⟨_,Tryz.underlying69,rfl⟩) (by intro fs h;cases h)
theorem OO:TyOk Tryz.prog 74 ty74:=aH (i:=Tryz.t74) (by rw [Tryz.types_size];decide) Tryz.type74 rfl ⟨rfl,rfl,rfl,rfl⟩ rfl (by exact Tryz.underlying74) (by intro fs h;cases h)
theorem LP:TyOk Tryz.prog 110 ty110:=aH (i:=Tryz.t110) (by rw [Tryz.types_size];decide) Tryz.type110 rfl ⟨rfl,rfl,rfl,rfl⟩ rfl (by exact ⟨_,Tryz.underlying110,rfl⟩) (by intro fs h;cases h)
theorem LQ:TyOk Tryz.prog 111 ty111:=aH (i:=Tryz.t111) (by rw [Tryz.types_size];decide) Tryz.type111 rfl ⟨rfl,rfl,rfl,rfl⟩ rfl (by exact ⟨_,Tryz.underlying111,rfl⟩) (by intro fs h;cases h)
theorem LR:TyOk Tryz.prog 114 ty114:=aH (i:=Tryz.t114) (by rw [Tryz.types_size];decide) Tryz.type114 rfl ⟨rfl,rfl,rfl,rfl⟩ rfl (by exact ⟨_,Tryz.underlying114,rfl⟩) (by intro fs h;cases h)
theorem LS:TyOk Tryz.prog 116 ty116:=aH (i:=Tryz.t116) (by rw [Tryz.types_size];decide) Tryz.type116 rfl ⟨rfl,rfl,rfl,rfl⟩ rfl (by exact ⟨_,Tryz.underlying116,rfl⟩) (by intro fs h;cases h;exact ⟨_,Tryz.underlying116,rfl,by decide,by kernel_rfl,by kernel_rfl⟩)
theorem LT:TyOk Tryz.prog 120 ty120:=aH (i:=Tryz.t120) (by rw [Tryz.types_size];decide) Tryz.type120 rfl ⟨rfl,rfl,rfl,rfl⟩ rfl (by exact ⟨_,Tryz.underlying120,rfl⟩) (by intro fs h;cases h)
theorem LU:TyOk Tryz.prog 129 ty129:=aH (i:=Tryz.t129) (by rw [Tryz.types_size];decide) Tryz.type129 rfl ⟨rfl,rfl,rfl,rfl⟩ rfl (by exact ⟨_,Tryz.underlying129,rfl⟩) (by intro fs h;cases h)
theorem LV:TyOk Tryz.prog 131 ty131:=aH (i:=Tryz.t131) (by rw [Tryz.types_size];decide) Tryz.type131 rfl ⟨rfl,rfl,rfl,rfl⟩ rfl (by exact ⟨_,Tryz.underlying131,rfl⟩) (by intro fs h;cases h)
theorem LW:TyOk Tryz.prog 133 ty133:=aH (i:=Tryz.t133) (by rw [Tryz.types_size];decide) Tryz.type133 rfl ⟨rfl,rfl,rfl,rfl⟩ rfl (by exact ⟨_,Tryz.underlying133,rfl⟩) (by intro fs h;cases h)
theorem LX:TyOk Tryz.prog 138 ty138:=aH (i:=Tryz.t138) (by rw [Tryz.types_size];decide) Tryz.type138 rfl ⟨rfl,rfl,rfl,rfl⟩ rfl (by exact ⟨_,Tryz.underlying138,rfl⟩) (by intro fs h;cases h)
theorem LY:TyOk Tryz.prog 154 ty154:=aH (i:=Tryz.t154) (by rw [Tryz.types_size];decide) Tryz.type154 rfl ⟨rfl,rfl,rfl,rfl⟩ rfl (by exact ⟨_,Tryz.underlying154,rfl⟩) (by intro fs h;cases h)
theorem LZ:TyOk Tryz.prog 155 ty155:=aH (i:=Tryz.t155) (by rw [Tryz.types_size];decide) Tryz.type155 rfl ⟨rfl,rfl,rfl,rfl⟩ rfl (by exact Tryz.underlying155) (by intro fs h;cases h)
theorem Ma:TyOk Tryz.prog 168 ty168:=aH (i:=Tryz.t168) (by rw [Tryz.types_size];decide) Tryz.type168 rfl ⟨rfl,rfl,rfl,rfl⟩ rfl (by exact ⟨_,Tryz.underlying168,rfl⟩) (by intro fs h;cases h;exact ⟨_,Tryz.underlying168,rfl,by decide,by kernel_rfl,by kernel_rfl⟩)
theorem Mb:TyOk Tryz.prog 171 ty171:=aH (i:=Tryz.t171) (by rw [Tryz.types_size];decide) Tryz.type171 rfl ⟨rfl,rfl,rfl,rfl⟩ rfl (by exact ⟨_,Tryz.underlying171,rfl⟩) (by intro fs h;cases h)
theorem Me:TyOk Tryz.prog 179 ty179:=aH (i:=Tryz.t179) (by rw [Tryz.types_size];decide) Tryz.type179 rfl ⟨rfl,rfl,rfl,rfl⟩ rfl (by exact ⟨_,Tryz.underlying179,rfl⟩) (by intro fs h;cases h)
theorem Mf:TyOk Tryz.prog 180 ty180:=aH (i:=Tryz.t180) (by rw [Tryz.types_size];decide) Tryz.type180 rfl ⟨rfl,rfl,rfl,rfl⟩ rfl (by exact ⟨_,Tryz.underlying180,rfl⟩) (by intro fs h;cases h)
theorem Mg:TyOk Tryz.prog 188 ty188:=aH (i:=Tryz.t188) (by rw [Tryz.types_size];decide) Tryz.type188 rfl ⟨rfl,rfl,rfl,rfl⟩ rfl (by exact Tryz.underlying188) (by intro fs h;cases h)
theorem Mh:TyOk Tryz.prog 192 ty192:=aH (i:=Tryz.t192) (by rw [Tryz.types_size];decide) Tryz.type192 rfl ⟨rfl,rfl,rfl,rfl⟩ rfl (by exact ⟨_,Tryz.underlying192,rfl⟩) (by intro fs h;cases h)
theorem Mi:TyOk Tryz.prog 200 ty200:=aH (i:=Tryz.t200) (by rw [Tryz.types_size];decide) Tryz.type200 rfl ⟨rfl,rfl,rfl,rfl⟩ rfl (by exact ⟨_,Tryz.underlying200,rfl⟩) (by intro fs h;cases h)
theorem Mj:TyOk Tryz.prog 204 ty204:=aH (i:=Tryz.t204) (by rw [Tryz.types_size];decide) Tryz.type204 rfl ⟨rfl,rfl,rfl,rfl⟩ rfl (by exact ⟨_,Tryz.underlying204,rfl⟩) (by intro fs h;cases h)
theorem Ml:TyOk Tryz.prog 213 ty213:=aH (i:=Tryz.t213) (by rw [Tryz.types_size];decide) Tryz.type213 rfl ⟨rfl,rfl,rfl,rfl⟩ rfl (by exact Tryz.underlying213) (by intro fs h;cases h)
theorem Mm:TyOk Tryz.prog 223 ty223:=aH (i:=Tryz.t223) (by rw [Tryz.types_size];decide) Tryz.type223 rfl ⟨rfl,rfl,rfl,rfl⟩ rfl (by exact ⟨_,Tryz.underlying223,rfl⟩) (by intro fs h;cases h)
theorem Mn:TyOk Tryz.prog 227 ty227:=aH (i:=Tryz.t227) (by rw [Tryz.types_size];decide) Tryz.type227 rfl ⟨rfl,rfl,rfl,rfl⟩ rfl (by exact ⟨_,Tryz.underlying227,rfl⟩) (by intro fs h;cases h)
theorem Mo:TyOk Tryz.prog 242 ty242:=aH (i:=Tryz.t242) (by rw [Tryz.types_size];decide) Tryz.type242 rfl ⟨rfl,rfl,rfl,rfl⟩ rfl (by exact Tryz.underlying242) (by intro fs h;cases h)
theorem Mp:TyOk Tryz.prog 244 ty244:=aH (i:=Tryz.t244) (by rw [Tryz.types_size];decide) Tryz.type244 rfl ⟨rfl,rfl,rfl,rfl⟩ rfl (by exact ⟨_,Tryz.underlying244,rfl⟩) (by intro fs h;cases h)
theorem Mq:TyOk Tryz.prog 267 ty267:=aH (i:=Tryz.t267) (by rw [Tryz.types_size];decide) Tryz.type267 rfl ⟨rfl,rfl,rfl,rfl⟩ rfl (by exact Tryz.underlying267) (by intro fs h;cases h)
theorem Mr:TyOk Tryz.prog 270 ty270:=aH (i:=Tryz.t270) (by rw [Tryz.types_size];decide) Tryz.type270 rfl ⟨rfl,rfl,rfl,rfl⟩ rfl (by exact Tryz.underlying270) (by intro fs h;cases h)
theorem Ms:TyOk Tryz.prog 286 ty286:=aH (i:=Tryz.t286) (by rw [Tryz.types_size];decide) Tryz.type286 rfl ⟨rfl,rfl,rfl,rfl⟩ rfl (by exact Tryz.underlying286) (by intro fs h;cases h)
theorem OP {l:List Ty}(r:bd Tryz.prog 16 l):bd Tryz.prog 0 (unkTy::ty1::ty2::ty3::ty4::ty5::ty6::unkTy::ty8::ty9::unkTy::unkTy::unkTy::unkTy::unkTy::unkTy::l):=
 .cons (ah _ _) (.cons Py (.cons Pz (.cons PA (.cons PB (.cons PC (.cons PD (.cons (ah _ _) (.cons PE (.cons PF (.cons (ah _ _) (.cons (ah _ _) (.cons (ah _ _) (.cons (ah _ _) (.cons (ah _ _) (.cons (ah _ _) (r))))))))))))))))
theorem Mt {l:List Ty}(r:bd Tryz.prog 32 l):bd Tryz.prog 16 (unkTy::unkTy::unkTy::unkTy::ty20::unkTy::ty22::ty23::unkTy::ty25::ty26::unkTy::unkTy::unkTy::unkTy::unkTy::l):=
 .cons (ah _ _) (.cons (ah _ _) (.cons (ah _ _) (.cons (ah _ _) (.cons Oy (.cons (ah _ _) (.cons Oz (.cons OA (.cons (ah _ _) (.cons OB (.cons OC (.cons (ah _ _) (.cons (ah _ _) (.cons (ah _ _) (.cons (ah _ _) (.cons (ah _ _) (r))))))))))))))))
theorem Mu {l:List Ty}(r:bd Tryz.prog 48 l):bd Tryz.prog 32 (ty32::ty33::unkTy::ty35::unkTy::ty37::unkTy::unkTy::unkTy::unkTy::unkTy::unkTy::unkTy::unkTy::ty46::unkTy::l):=
 .cons OD (.cons OE (.cons (ah _ _) (.cons OF (.cons (ah _ _) (.cons OG (.cons (ah _ _) (.cons (ah _ _) (.cons (ah _ _) (.cons (ah _ _) (.cons (ah _ _) (.cons (ah _ _) (.cons (ah _ _) (.cons (ah _ _) (.cons OH (.cons (ah _ _) (r))))))))))))))))
theorem Mv {l:List Ty}(r:bd Tryz.prog 64 l):bd Tryz.prog 48 (ty48::unkTy::ty50::unkTy::unkTy::unkTy::unkTy::unkTy::unkTy::unkTy::unkTy::ty59::unkTy::ty61::unkTy::unkTy::l):=
 .cons OI (.cons (ah _ _) (.cons OJ (.cons (ah _ _) (.cons (ah _ _) (.cons (ah _ _) (.cons (ah _ _) (.cons (ah _ _) (.cons (ah _ _) (.cons (ah _ _) (.cons (ah _ _) (.cons OK (.cons (ah _ _) (.cons OL (.cons (ah _ _) (.cons (ah _ _) (r))))))))))))))))
theorem Mw {l:List Ty}(r:bd Tryz.prog 80 l):bd Tryz.prog 64 (unkTy::unkTy::unkTy::ty67::unkTy::ty69::unkTy::unkTy::unkTy::unkTy::ty74::unkTy::unkTy::unkTy::unkTy::unkTy::l):=
 .cons (ah _ _) (.cons (ah _ _) (.cons (ah _ _) (.cons OM (.cons (ah _ _) (.cons ON (.cons (ah _ _) (.cons (ah _ _) (.cons (ah _ _) (.cons (ah _ _) (.cons OO (.cons (ah _ _) (.cons (ah _ _) (.cons (ah _ _) (.cons (ah _ _) (.cons (ah _ _) (r))))))))))))))))
theorem Mx {l:List Ty}(r:bd Tryz.prog 96 l):bd Tryz.prog 80 (unkTy::unkTy::unkTy::unkTy::unkTy::unkTy::unkTy::unkTy::unkTy::unkTy::unkTy::unkTy::unkTy::unkTy::unkTy::unkTy::l):=
 .cons (ah _ _) (.cons (ah _ _) (.cons (ah _ _) (.cons (ah _ _) (.cons (ah _ _) (.cons (ah _ _) (.cons (ah _ _) (.cons (ah _ _) (.cons (ah _ _) (.cons (ah _ _) (.cons (ah _ _) (.cons (ah _ _) (.cons (ah _ _) (.cons (ah _ _) (.cons (ah _ _) (.cons (ah _ _) (r))))))))))))))))
theorem My {l:List Ty}(r:bd Tryz.prog 112 l):bd Tryz.prog 96 (unkTy::unkTy::unkTy::unkTy::unkTy::unkTy::unkTy::unkTy::unkTy::unkTy::unkTy::unkTy::unkTy::unkTy::ty110::ty111::l):=
 .cons (ah _ _) (.cons (ah _ _) (.cons (ah _ _) (.cons (ah _ _) (.cons (ah _ _) (.cons (ah _ _) (.cons (ah _ _) (.cons (ah _ _) (.cons (ah _ _) (.cons (ah _ _) (.cons (ah _ _) (.cons (ah _ _) (.cons (ah _ _) (.cons (ah _ _) (.cons LP (.cons LQ (r))))))))))))))))
theorem Kt {l:List Ty}(r:bd Tryz.prog 128 l):bd Tryz.prog 112 (unkTy::unkTy::ty114::unkTy::ty116::unkTy::unkTy::unkTy::ty120::unkTy::unkTy::unkTy::unkTy::unkTy::unkTy::unkTy::l):=
 .cons (ah _ _) (.cons (ah _ _) (.cons LR (.cons (ah _ _) (.cons LS (.cons (ah _ _) (.cons (ah _ _) (.cons (ah _ _) (.cons LT (.cons (ah _ _) (.cons (ah _ _) (.cons (ah _ _) (.cons (ah _ _) (.cons (ah _ _) (.cons (ah _ _) (.cons (ah _ _) (r))))))))))))))))
theorem Ku {l:List Ty}(r:bd Tryz.prog 144 l):bd Tryz.prog 128 (unkTy::ty129::unkTy::ty131::unkTy::ty133::unkTy::unkTy::unkTy::unkTy::ty138::unkTy::unkTy::unkTy::unkTy::unkTy::l):=
 .cons (ah _ _) (.cons LU (.cons (ah _ _) (.cons LV (.cons (ah _ _) (.cons LW (.cons (ah _ _) (.cons (ah _ _) (.cons (ah _ _) (.cons (ah _ _) (.cons LX (.cons (ah _ _) (.cons (ah _ _) (.cons (ah _ _) (.cons (ah _ _) (.cons (ah _ _) (r))))))))))))))))
theorem Kv {l:List Ty}(r:bd Tryz.prog 160 l):bd Tryz.prog 144 (unkTy::unkTy::unkTy::unkTy::unkTy::unkTy::unkTy::unkTy::unkTy::unkTy::ty154::ty155::unkTy::unkTy::unkTy::unkTy::l):=
 .cons (ah _ _) (.cons (ah _ _) (.cons (ah _ _) (.cons (ah _ _) (.cons (ah _ _) (.cons (ah _ _) (.cons (ah _ _) (.cons (ah _ _) (.cons (ah _ _) (.cons (ah _ _) (.cons LY (.cons LZ (.cons (ah _ _) (.cons (ah _ _) (.cons (ah _ _) (.cons (ah _ _) (r))))))))))))))))
theorem Kw {l:List Ty}(r:bd Tryz.prog 176 l):bd Tryz.prog 160 (unkTy::unkTy::unkTy::unkTy::unkTy::unkTy::unkTy::unkTy::ty168::unkTy::unkTy::ty171::unkTy::unkTy::unkTy::unkTy::l):=
 .cons (ah _ _) (.cons (ah _ _) (.cons (ah _ _) (.cons (ah _ _) (.cons (ah _ _) (.cons (ah _ _) (.cons (ah _ _) (.cons (ah _ _) (.cons Ma (.cons (ah _ _) (.cons (ah _ _) (.cons Mb (.cons (ah _ _) (.cons (ah _ _) (.cons (ah _ _) (.cons (ah _ _) (r))))))))))))))))
theorem Kx {l:List Ty}(r:bd Tryz.prog 192 l):bd Tryz.prog 176 (unkTy::unkTy::unkTy::ty179::ty180::unkTy::unkTy::unkTy::unkTy::unkTy::unkTy::unkTy::ty188::unkTy::unkTy::unkTy::l):=
 .cons (ah _ _) (.cons (ah _ _) (.cons (ah _ _) (.cons Me (.cons Mf (.cons (ah _ _) (.cons (ah _ _) (.cons (ah _ _) (.cons (ah _ _) (.cons (ah _ _) (.cons (ah _ _) (.cons (ah _ _) (.cons Mg (.cons (ah _ _) (.cons (ah _ _) (.cons (ah _ _) (r))))))))))))))))
theorem Ky {l:List Ty}(r:bd Tryz.prog 208 l):bd Tryz.prog 192 (ty192::unkTy::unkTy::unkTy::unkTy::unkTy::unkTy::unkTy::ty200::unkTy::unkTy::unkTy::ty204::unkTy::unkTy::unkTy::l):=
 .cons Mh (.cons (ah _ _) (.cons (ah _ _) (.cons (ah _ _) (.cons (ah _ _) (.cons (ah _ _) (.cons (ah _ _) (.cons (ah _ _) (.cons Mi (.cons (ah _ _) (.cons (ah _ _) (.cons (ah _ _) (.cons Mj (.cons (ah _ _) (.cons (ah _ _) (.cons (ah _ _) (r))))))))))))))))
theorem Kz {l:List Ty}(r:bd Tryz.prog 224 l):bd Tryz.prog 208 (unkTy::unkTy::unkTy::unkTy::unkTy::ty213::unkTy::unkTy::unkTy::unkTy::unkTy::unkTy::unkTy::unkTy::unkTy::ty223::l):=
 .cons (ah _ _) (.cons (ah _ _) (.cons (ah _ _) (.cons (ah _ _) (.cons (ah _ _) (.cons Ml (.cons (ah _ _) (.cons (ah _ _) (.cons (ah _ _) (.cons (ah _ _) (.cons (ah _ _) (.cons (ah _ _) (.cons (ah _ _) (.cons (ah _ _) (.cons (ah _ _) (.cons Mm (r))))))))))))))))
theorem KA {l:List Ty}(r:bd Tryz.prog 240 l):bd Tryz.prog 224 (unkTy::unkTy::unkTy::ty227::unkTy::unkTy::unkTy::unkTy::unkTy::unkTy::unkTy::unkTy::unkTy::unkTy::unkTy::unkTy::l):=
 .cons (ah _ _) (.cons (ah _ _) (.cons (ah _ _) (.cons Mn (.cons (ah _ _) (.cons (ah _ _) (.cons (ah _ _) (.cons (ah _ _) (.cons (ah _ _) (.cons (ah _ _) (.cons (ah _ _) (.cons (ah _ _) (.cons (ah _ _) (.cons (ah _ _) (.cons (ah _ _) (.cons (ah _ _) (r))))))))))))))))
theorem KB {l:List Ty}(r:bd Tryz.prog 256 l):bd Tryz.prog 240 (unkTy::unkTy::ty242::unkTy::ty244::unkTy::unkTy::unkTy::unkTy::unkTy::unkTy::unkTy::unkTy::unkTy::unkTy::unkTy::l):=
 .cons (ah _ _) (.cons (ah _ _) (.cons Mo (.cons (ah _ _) (.cons Mp (.cons (ah _ _) (.cons (ah _ _) (.cons (ah _ _) (.cons (ah _ _) (.cons (ah _ _) (.cons (ah _ _) (.cons (ah _ _) (.cons (ah _ _) (.cons (ah _ _) (.cons (ah _ _) (.cons (ah _ _) (r))))))))))))))))
theorem KD {l:List Ty}(r:bd Tryz.prog 272 l):bd Tryz.prog 256 (unkTy::unkTy::unkTy::unkTy::unkTy::unkTy::unkTy::unkTy::unkTy::unkTy::unkTy::ty267::unkTy::unkTy::ty270::unkTy::l):=
 .cons (ah _ _) (.cons (ah _ _) (.cons (ah _ _) (.cons (ah _ _) (.cons (ah _ _) (.cons (ah _ _) (.cons (ah _ _) (.cons (ah _ _) (.cons (ah _ _) (.cons (ah _ _) (.cons (ah _ _) (.cons Mq (.cons (ah _ _) (.cons (ah _ _) (.cons Mr (.cons (ah _ _) (r))))))))))))))))
theorem KE {l:List Ty}(r:bd Tryz.prog 287 l):bd Tryz.prog 272 (unkTy::unkTy::unkTy::unkTy::unkTy::unkTy::unkTy::unkTy::unkTy::unkTy::unkTy::unkTy::unkTy::unkTy::ty286::l):=
 .cons (ah _ _) (.cons (ah _ _) (.cons (ah _ _) (.cons (ah _ _) (.cons (ah _ _) (.cons (ah _ _) (.cons (ah _ _) (.cons (ah _ _) (.cons (ah _ _) (.cons (ah _ _) (.cons (ah _ _) (.cons (ah _ _) (.cons (ah _ _) (.cons (ah _ _) (.cons Ms (r)))))))))))))))
theorem hT (t:Nat):TyOk Tryz.prog t (T t):=by
 have h:bd Tryz.prog 0 tys:=OP (Mt (Mu (Mv (Mw (Mx (My (Kt (Ku (Kv (Kw (Kx (Ky (Kz (KA (KB (KD (KE (.nil _))))))))))))))))))
 have:=h.get t
 rw [Nat.zero_add] at this
 exact this
section
open TK
@[simp,go_sem] theorem Tk1:(T 1).kind=.other:=rfl
@[simp,go_sem] theorem Ts1:(T 1).size=1:=rfl
@[simp,go_sem] theorem Tb1:(T 1).bytes=8:=rfl
@[simp,go_sem] theorem Tz1:(T 1).zero=[Go.Value.nilFunc]:=rfl
@[simp,go_sem] theorem Tk2:(T 2).kind=.int .i64:=rfl
@[simp,go_sem] theorem Ts2:(T 2).size=1:=rfl
@[simp,go_sem] theorem Tb2:(T 2).bytes=8:=rfl
@[simp,go_sem] theorem Tz2:(T 2).zero=[Go.Value.int Go.IntKind.i64 0]:=rfl
@[simp,go_sem] theorem Tk3:(T 3).kind=.int .i64:=rfl
@[simp,go_sem] theorem Ts3:(T 3).size=1:=rfl
@[simp,go_sem] theorem Tb3:(T 3).bytes=8:=rfl
@[simp,go_sem] theorem Tz3:(T 3).zero=[Go.Value.int Go.IntKind.i64 0]:=rfl
@[simp,go_sem] theorem Tk4:(T 4).kind=.bool:=rfl
@[simp,go_sem] theorem Ts4:(T 4).size=1:=rfl
@[simp,go_sem] theorem Tb4:(T 4).bytes=1:=rfl
@[simp,go_sem] theorem Tz4:(T 4).zero=[Go.Value.bool false]:=rfl
@[simp,go_sem] theorem Tk5:(T 5).kind=.int .u8:=rfl
@[simp,go_sem] theorem Ts5:(T 5).size=1:=rfl
@[simp,go_sem] theorem Tb5:(T 5).bytes=1:=rfl
@[simp,go_sem] theorem Tz5:(T 5).zero=[Go.Value.int Go.IntKind.u8 0]:=rfl
@[simp,go_sem] theorem Tk6:(T 6).kind=.int .u8:=rfl
@[simp,go_sem] theorem Ts6:(T 6).size=1:=rfl
@[simp,go_sem] theorem Tb6:(T 6).bytes=1:=rfl
@[simp,go_sem] theorem Tz6:(T 6).zero=[Go.Value.int Go.IntKind.u8 0]:=rfl
@[simp,go_sem] theorem Tk8:(T 8).kind=.struct [(0,2),(1,3),(2,4),(3,6)]:=rfl
@[simp,go_sem] theorem Ts8:(T 8).size=4:=rfl
@[simp,go_sem] theorem Tb8:(T 8).bytes=24:=rfl
@[simp,go_sem] theorem Tz8:(T 8).zero=[Go.Value.int Go.IntKind.i64 0,Go.Value.int Go.IntKind.i64 0,Go.Value.bool false,Go.Value.int Go.IntKind.u8 0]:=rfl
@[simp,go_sem] theorem Tk9:(T 9).kind=.str:=rfl
@[simp,go_sem] theorem Ts9:(T 9).size=1:=rfl
@[simp,go_sem] theorem Tb9:(T 9).bytes=16:=rfl
@[simp,go_sem] theorem Tz9:(T 9).zero=[Go.Value.string { data:=#[] }]:=rfl
@[simp,go_sem] theorem Tk20:(T 20).kind=.other:=rfl
@[simp,go_sem] theorem Ts20:(T 20).size=1:=rfl
@[simp,go_sem] theorem Tb20:(T 20).bytes=16:=rfl
@[simp,go_sem] theorem Tz20:(T 20).zero=[Go.Value.nilIface]:=rfl
@[simp,go_sem] theorem Tk22:(T 22).kind=.slice 154:=rfl
@[simp,go_sem] theorem Ts22:(T 22).size=1:=rfl
@[simp,go_sem] theorem Tb22:(T 22).bytes=24:=rfl
@[simp,go_sem] theorem Tz22:(T 22).zero=[Go.Value.slice none 0 0]:=rfl
@[simp,go_sem] theorem Tk23:(T 23).kind=.slice 168:=rfl
@[simp,go_sem] theorem Ts23:(T 23).size=1:=rfl
@[simp,go_sem] theorem Tb23:(T 23).bytes=24:=rfl
@[simp,go_sem] theorem Tz23:(T 23).zero=[Go.Value.slice none 0 0]:=rfl
@[simp,go_sem] theorem Tk25:(T 25).kind=.struct [(0,22),(1,23),(2,3)]:=rfl
@[simp,go_sem] theorem Ts25:(T 25).size=3:=rfl
@[simp,go_sem] theorem Tb25:(T 25).bytes=56:=rfl
@[simp,go_sem] theorem Tz25:(T 25).zero=[Go.Value.slice none 0 0,Go.Value.slice none 0 0,Go.Value.int Go.IntKind.i64 0]:=rfl
@[simp,go_sem] theorem Tk26:(T 26).kind=.slice 3:=rfl
@[simp,go_sem] theorem Ts26:(T 26).size=1:=rfl
@[simp,go_sem] theorem Tb26:(T 26).bytes=24:=rfl
@[simp,go_sem] theorem Tz26:(T 26).zero=[Go.Value.slice none 0 0]:=rfl
@[simp,go_sem] theorem Tk32:(T 32).kind=.slice 114:=rfl
@[simp,go_sem] theorem Ts32:(T 32).size=1:=rfl
@[simp,go_sem] theorem Tb32:(T 32).bytes=24:=rfl
@[simp,go_sem] theorem Tz32:(T 32).zero=[Go.Value.slice none 0 0]:=rfl
@[simp,go_sem] theorem Tk33:(T 33).kind=.slice 116:=rfl
@[simp,go_sem] theorem Ts33:(T 33).size=1:=rfl
@[simp,go_sem] theorem Tb33:(T 33).bytes=24:=rfl
@[simp,go_sem] theorem Tz33:(T 33).zero=[Go.Value.slice none 0 0]:=rfl
@[simp,go_sem] theorem Tk35:(T 35).kind=.struct [(0,32),(1,33),(2,3)]:=rfl
@[simp,go_sem] theorem Ts35:(T 35).size=3:=rfl
@[simp,go_sem] theorem Tb35:(T 35).bytes=56:=rfl
@[simp,go_sem] theorem Tz35:(T 35).zero=[Go.Value.slice none 0 0,Go.Value.slice none 0 0,Go.Value.int Go.IntKind.i64 0]:=rfl
@[simp,go_sem] theorem Tk37:(T 37).kind=.struct [(0,26),(1,26)]:=rfl
@[simp,go_sem] theorem Ts37:(T 37).size=2:=rfl
@[simp,go_sem] theorem Tb37:(T 37).bytes=48:=rfl
@[simp,go_sem] theorem Tz37:(T 37).zero=[Go.Value.slice none 0 0,Go.Value.slice none 0 0]:=rfl
@[simp,go_sem] theorem Tk46:(T 46).kind=.slice 110:=rfl
@[simp,go_sem] theorem Ts46:(T 46).size=1:=rfl
@[simp,go_sem] theorem Tb46:(T 46).bytes=24:=rfl
@[simp,go_sem] theorem Tz46:(T 46).zero=[Go.Value.slice none 0 0]:=rfl
@[simp,go_sem] theorem Tk48:(T 48).kind=.slice 9:=rfl
@[simp,go_sem] theorem Ts48:(T 48).size=1:=rfl
@[simp,go_sem] theorem Tb48:(T 48).bytes=24:=rfl
@[simp,go_sem] theorem Tz48:(T 48).zero=[Go.Value.slice none 0 0]:=rfl
@[simp,go_sem] theorem Tk50:(T 50).kind=.slice 111:=rfl
@[simp,go_sem] theorem Ts50:(T 50).size=1:=rfl
@[simp,go_sem] theorem Tb50:(T 50).bytes=24:=rfl
@[simp,go_sem] theorem Tz50:(T 50).zero=[Go.Value.slice none 0 0]:=rfl
@[simp,go_sem] theorem Tk59:(T 59).kind=.struct [(0,3),(1,26),(2,26)]:=rfl
@[simp,go_sem] theorem Ts59:(T 59).size=3:=rfl
@[simp,go_sem] theorem Tb59:(T 59).bytes=56:=rfl
@[simp,go_sem] theorem Tz59:(T 59).zero=[Go.Value.int Go.IntKind.i64 0,Go.Value.slice none 0 0,Go.Value.slice none 0 0]:=rfl
@[simp,go_sem] theorem Tk61:(T 61).kind=.struct [(0,35),(3,59),(6,4),(7,50)]:=rfl
@[simp,go_sem] theorem Ts61:(T 61).size=8:=rfl
@[simp,go_sem] theorem Tb61:(T 61).bytes=144:=rfl
@[simp,go_sem] theorem Tz61:(T 61).zero=[Go.Value.slice none 0 0,Go.Value.slice none 0 0,Go.Value.int Go.IntKind.i64 0,Go.Value.int Go.IntKind.i64 0,Go.Value.slice none 0 0,Go.Value.slice none 0 0,Go.Value.bool false,Go.Value.slice none 0 0]:=rfl
@[simp,go_sem] theorem Tk67:(T 67).kind=.struct [(0,3),(1,26),(2,26)]:=rfl
@[simp,go_sem] theorem Ts67:(T 67).size=3:=rfl
@[simp,go_sem] theorem Tb67:(T 67).bytes=56:=rfl
@[simp,go_sem] theorem Tz67:(T 67).zero=[Go.Value.int Go.IntKind.i64 0,Go.Value.slice none 0 0,Go.Value.slice none 0 0]:=rfl
@[simp,go_sem] theorem Tk69:(T 69).kind=.struct [(0,25),(3,67),(6,4),(7,46)]:=rfl
@[simp,go_sem] theorem Ts69:(T 69).size=8:=rfl
@[simp,go_sem] theorem Tb69:(T 69).bytes=144:=rfl
@[simp,go_sem] theorem Tz69:(T 69).zero=[Go.Value.slice none 0 0,Go.Value.slice none 0 0,Go.Value.int Go.IntKind.i64 0,Go.Value.int Go.IntKind.i64 0,Go.Value.slice none 0 0,Go.Value.slice none 0 0,Go.Value.bool false,Go.Value.slice none 0 0]:=rfl
@[simp,go_sem] theorem Tk74:(T 74).kind=.slice 5:=rfl
@[simp,go_sem] theorem Ts74:(T 74).size=1:=rfl
@[simp,go_sem] theorem Tb74:(T 74).bytes=24:=rfl
@[simp,go_sem] theorem Tz74:(T 74).zero=[Go.Value.slice none 0 0]:=rfl
@[simp,go_sem] theorem UU:(T 110).kind=.struct [(0,3),(1,26),(2,26),(3,26)]:=rfl
@[simp,go_sem] theorem UV:(T 110).size=4:=rfl
@[simp,go_sem] theorem UW:(T 110).bytes=80:=rfl
@[simp,go_sem] theorem UX:(T 110).zero=[Go.Value.int Go.IntKind.i64 0,Go.Value.slice none 0 0,Go.Value.slice none 0 0,Go.Value.slice none 0 0]:=rfl
@[simp,go_sem] theorem UY:(T 111).kind=.struct [(0,3),(1,26),(2,26),(3,26)]:=rfl
@[simp,go_sem] theorem UZ:(T 111).size=4:=rfl
@[simp,go_sem] theorem Va:(T 111).bytes=80:=rfl
@[simp,go_sem] theorem Vb:(T 111).zero=[Go.Value.int Go.IntKind.i64 0,Go.Value.slice none 0 0,Go.Value.slice none 0 0,Go.Value.slice none 0 0]:=rfl
@[simp,go_sem] theorem Vc:(T 114).kind=.struct [(0,9),(1,26),(2,3)]:=rfl
@[simp,go_sem] theorem Vd:(T 114).size=3:=rfl
@[simp,go_sem] theorem Ve:(T 114).bytes=48:=rfl
@[simp,go_sem] theorem Vf:(T 114).zero=[Go.Value.string { data:=#[] },Go.Value.slice none 0 0,Go.Value.int Go.IntKind.i64 0]:=rfl
@[simp,go_sem] theorem Vg:(T 116).kind=.struct [(0,3),(1,3),(2,3),(3,3),(4,4)]:=rfl
@[simp,go_sem] theorem Vh:(T 116).size=5:=rfl
@[simp,go_sem] theorem Vi:(T 116).bytes=40:=rfl
@[simp,go_sem] theorem Vj:(T 116).zero=[Go.Value.int Go.IntKind.i64 0,Go.Value.int Go.IntKind.i64 0,Go.Value.int Go.IntKind.i64 0,Go.Value.int Go.IntKind.i64 0,Go.Value.bool false]:=rfl
@[simp,go_sem] theorem Vk:(T 116).eqs=some [(0,3),(1,3),(2,3),(3,3),(4,4)]:=rfl
@[simp,go_sem] theorem Vl:(T 120).kind=.other:=rfl
@[simp,go_sem] theorem Vm:(T 120).size=1:=rfl
@[simp,go_sem] theorem Vn:(T 120).bytes=8:=rfl
@[simp,go_sem] theorem Vo:(T 120).zero=[Go.Value.nilFunc]:=rfl
@[simp,go_sem] theorem Vp:(T 129).kind=.other:=rfl
@[simp,go_sem] theorem Vq:(T 129).size=1:=rfl
@[simp,go_sem] theorem Vr:(T 129).bytes=8:=rfl
@[simp,go_sem] theorem Vs:(T 129).zero=[Go.Value.pointer none]:=rfl
@[simp,go_sem] theorem Vt:(T 131).kind=.struct [(0,129),(1,74)]:=rfl
@[simp,go_sem] theorem Vu:(T 131).size=2:=rfl
@[simp,go_sem] theorem Vv:(T 131).bytes=32:=rfl
@[simp,go_sem] theorem Vw:(T 131).zero=[Go.Value.pointer none,Go.Value.slice none 0 0]:=rfl
@[simp,go_sem] theorem Vx:(T 133).kind=.other:=rfl
@[simp,go_sem] theorem Vy:(T 133).size=1:=rfl
@[simp,go_sem] theorem Vz:(T 133).bytes=16:=rfl
@[simp,go_sem] theorem VA:(T 133).zero=[Go.Value.nilIface]:=rfl
@[simp,go_sem] theorem VB:(T 138).kind=.other:=rfl
@[simp,go_sem] theorem VC:(T 138).size=1:=rfl
@[simp,go_sem] theorem VD:(T 138).bytes=8:=rfl
@[simp,go_sem] theorem VE:(T 138).zero=[Go.Value.pointer none]:=rfl
@[simp,go_sem] theorem VG:(T 154).kind=.struct [(0,9),(1,26),(2,3)]:=rfl
@[simp,go_sem] theorem VH:(T 154).size=3:=rfl
@[simp,go_sem] theorem VI:(T 154).bytes=48:=rfl
@[simp,go_sem] theorem VJ:(T 154).zero=[Go.Value.string { data:=#[] },Go.Value.slice none 0 0,Go.Value.int Go.IntKind.i64 0]:=rfl
@[simp,go_sem] theorem VK:(T 155).kind=.slice 4:=rfl
@[simp,go_sem] theorem VL:(T 155).size=1:=rfl
@[simp,go_sem] theorem VM:(T 155).bytes=24:=rfl
@[simp,go_sem] theorem VN:(T 155).zero=[Go.Value.slice none 0 0]:=rfl
@[simp,go_sem] theorem VO:(T 168).kind=.struct [(0,3),(1,3),(2,3),(3,3),(4,4)]:=rfl
@[simp,go_sem] theorem VP:(T 168).size=5:=rfl
@[simp,go_sem] theorem VQ:(T 168).bytes=40:=rfl
@[simp,go_sem] theorem VR:(T 168).zero=[Go.Value.int Go.IntKind.i64 0,Go.Value.int Go.IntKind.i64 0,Go.Value.int Go.IntKind.i64 0,Go.Value.int Go.IntKind.i64 0,Go.Value.bool false]:=rfl
@[simp,go_sem] theorem VS:(T 168).eqs=some [(0,3),(1,3),(2,3),(3,3),(4,4)]:=rfl
@[simp,go_sem] theorem VT:(T 171).kind=.other:=rfl
@[simp,go_sem] theorem VU:(T 171).size=1:=rfl
@[simp,go_sem] theorem VV:(T 171).bytes=8:=rfl
@[simp,go_sem] theorem VW:(T 171).zero=[Go.Value.nilFunc]:=rfl
@[simp,go_sem] theorem VX:(T 179).kind=.other:=rfl
@[simp,go_sem] theorem VY:(T 179).size=1:=rfl
@[simp,go_sem] theorem VZ:(T 179).bytes=8:=rfl
@[simp,go_sem] theorem Wa:(T 179).zero=[Go.Value.nilFunc]:=rfl
@[simp,go_sem] theorem Wb:(T 180).kind=.other:=rfl
@[simp,go_sem] theorem Wc:(T 180).size=1:=rfl
@[simp,go_sem] theorem Wd:(T 180).bytes=8:=rfl
@[simp,go_sem] theorem We:(T 180).zero=[Go.Value.nilFunc]:=rfl
@[simp,go_sem] theorem Wf:(T 188).kind=.slice 26:=rfl
@[simp,go_sem] theorem Wg:(T 188).size=1:=rfl
@[simp,go_sem] theorem Wh:(T 188).bytes=24:=rfl
@[simp,go_sem] theorem Wi:(T 188).zero=[Go.Value.slice none 0 0]:=rfl
@[simp,go_sem] theorem Wj:(T 192).kind=.struct [(0,74),(1,3),(2,3)]:=rfl
@[simp,go_sem] theorem Wk:(T 192).size=3:=rfl
@[simp,go_sem] theorem Wl:(T 192).bytes=40:=rfl
@[simp,go_sem] theorem Wm:(T 192).zero=[Go.Value.slice none 0 0,Go.Value.int Go.IntKind.i64 0,Go.Value.int Go.IntKind.i64 0]:=rfl
@[simp,go_sem] theorem Wn:(T 200).kind=.other:=rfl
@[simp,go_sem] theorem Wo:(T 200).size=1:=rfl
@[simp,go_sem] theorem Wp:(T 200).bytes=8:=rfl
@[simp,go_sem] theorem Wq:(T 200).zero=[Go.Value.pointer none]:=rfl
@[simp,go_sem] theorem Wr:(T 204).kind=.other:=rfl
@[simp,go_sem] theorem Ws:(T 204).size=1:=rfl
@[simp,go_sem] theorem Wt:(T 204).bytes=8:=rfl
@[simp,go_sem] theorem Wu:(T 204).zero=[Go.Value.nilFunc]:=rfl
@[simp,go_sem] theorem Wv:(T 213).kind=.int .u64:=rfl
@[simp,go_sem] theorem Ww:(T 213).size=1:=rfl
@[simp,go_sem] theorem Wx:(T 213).bytes=8:=rfl
@[simp,go_sem] theorem Wy:(T 213).zero=[Go.Value.int Go.IntKind.u64 0]:=rfl
@[simp,go_sem] theorem Wz:(T 223).kind=.other:=rfl
@[simp,go_sem] theorem WA:(T 223).size=1:=rfl
@[simp,go_sem] theorem WB:(T 223).bytes=8:=rfl
@[simp,go_sem] theorem WC:(T 223).zero=[Go.Value.nilFunc]:=rfl
@[simp,go_sem] theorem WD:(T 227).kind=.other:=rfl
@[simp,go_sem] theorem WE:(T 227).size=1:=rfl
@[simp,go_sem] theorem WF:(T 227).bytes=8:=rfl
@[simp,go_sem] theorem WG:(T 227).zero=[Go.Value.nilFunc]:=rfl
@[simp,go_sem] theorem WH:(T 242).kind=.map 9 4:=rfl
@[simp,go_sem] theorem WI:(T 242).size=1:=rfl
@[simp,go_sem] theorem WJ:(T 242).bytes=8:=rfl
@[simp,go_sem] theorem WK:(T 242).zero=[Go.Value.map none]:=rfl
@[simp,go_sem] theorem WL:(T 244).kind=.struct [(0,35),(3,242)]:=rfl
@[simp,go_sem] theorem WM:(T 244).size=4:=rfl
@[simp,go_sem] theorem WN:(T 244).bytes=64:=rfl
@[simp,go_sem] theorem WO:(T 244).zero=[Go.Value.slice none 0 0,Go.Value.slice none 0 0,Go.Value.int Go.IntKind.i64 0,Go.Value.map none]:=rfl
@[simp,go_sem] theorem WP:(T 267).kind=.int .u32:=rfl
@[simp,go_sem] theorem WQ:(T 267).size=1:=rfl
@[simp,go_sem] theorem WR:(T 267).bytes=4:=rfl
@[simp,go_sem] theorem WS:(T 267).zero=[Go.Value.int Go.IntKind.u32 0]:=rfl
@[simp,go_sem] theorem WT:(T 270).kind=.int .u64:=rfl
@[simp,go_sem] theorem WU:(T 270).size=1:=rfl
@[simp,go_sem] theorem WV:(T 270).bytes=8:=rfl
@[simp,go_sem] theorem WW:(T 270).zero=[Go.Value.int Go.IntKind.u64 0]:=rfl
@[simp,go_sem] theorem WX:(T 286).kind=.int .i64:=rfl
@[simp,go_sem] theorem WY:(T 286).size=1:=rfl
@[simp,go_sem] theorem WZ:(T 286).bytes=8:=rfl
@[simp,go_sem] theorem Xa:(T 286).zero=[Go.Value.int Go.IntKind.i64 0]:=rfl
end
end Go.Proofs.Qa
