/- The types of the seat,and that they fit. Made by gentypes.py. -/
import Derived.Test.YtghfphjfkdbpjaaGreatA31
import Derived.KernelRfl
import Derived.Test.YtghfphjfkdbpjaaGreatProg
set_option linter.all false
namespace Go.Proofs.QA
open Go
def unkTy:Ty:=⟨.unknown,0,0,[],none⟩
def ty1:Ty:=⟨.other,1,8,[Go.Value.nilFunc],none⟩
def ty2:Ty:=⟨.int .i64,1,8,[Go.Value.int Go.IntKind.i64 0],none⟩
def ty3:Ty:=⟨.int .i64,1,8,[Go.Value.int Go.IntKind.i64 0],none⟩
def ty4:Ty:=⟨.bool,1,1,[Go.Value.bool false],none⟩
def ty5:Ty:=⟨.int .u8,1,1,[Go.Value.int Go.IntKind.u8 0],none⟩
def ty6:Ty:=⟨.int .u8,1,1,[Go.Value.int Go.IntKind.u8 0],none⟩
def ty8:Ty:=⟨.struct [(0,2),(1,3),(2,4),(3,6)],4,24,[Go.Value.int Go.IntKind.i64 0,Go.Value.int Go.IntKind.i64 0,Go.Value.bool false,Go.Value.int Go.IntKind.u8 0],none⟩
def ty9:Ty:=⟨.str,1,16,[Go.Value.string { data:=#[] }],none⟩
def ty20:Ty:=⟨.other,1,16,[Go.Value.nilIface],none⟩
def ty22:Ty:=⟨.slice 5,1,24,[Go.Value.slice none 0 0],none⟩
def ty23:Ty:=⟨.slice 147,1,24,[Go.Value.slice none 0 0],none⟩
def ty24:Ty:=⟨.slice 153,1,24,[Go.Value.slice none 0 0],none⟩
def ty26:Ty:=⟨.struct [(0,23),(1,24),(2,3)],3,56,[Go.Value.slice none 0 0,Go.Value.slice none 0 0,Go.Value.int Go.IntKind.i64 0],none⟩
def ty28:Ty:=⟨.slice 3,1,24,[Go.Value.slice none 0 0],none⟩
def ty30:Ty:=⟨.struct [(0,3),(1,28),(2,28)],3,56,[Go.Value.int Go.IntKind.i64 0,Go.Value.slice none 0 0,Go.Value.slice none 0 0],none⟩
def ty31:Ty:=⟨.slice 42,1,24,[Go.Value.slice none 0 0],none⟩
def ty33:Ty:=⟨.struct [(0,26),(3,30),(6,4),(7,31)],8,144,[Go.Value.slice none 0 0,Go.Value.slice none 0 0,Go.Value.int Go.IntKind.i64 0,Go.Value.int Go.IntKind.i64 0,Go.Value.slice none 0 0,Go.Value.slice none 0 0,Go.Value.bool false,Go.Value.slice none 0 0],none⟩
def ty37:Ty:=⟨.struct [(0,28),(1,28)],2,48,[Go.Value.slice none 0 0,Go.Value.slice none 0 0],none⟩
def ty42:Ty:=⟨.struct [(0,3),(1,28),(2,28),(3,28)],4,80,[Go.Value.int Go.IntKind.i64 0,Go.Value.slice none 0 0,Go.Value.slice none 0 0,Go.Value.slice none 0 0],none⟩
def ty47:Ty:=⟨.slice 28,1,24,[Go.Value.slice none 0 0],none⟩
def ty60:Ty:=⟨.slice 184,1,24,[Go.Value.slice none 0 0],none⟩
def ty61:Ty:=⟨.slice 187,1,24,[Go.Value.slice none 0 0],none⟩
def ty63:Ty:=⟨.struct [(0,60),(1,61),(2,3)],3,56,[Go.Value.slice none 0 0,Go.Value.slice none 0 0,Go.Value.int Go.IntKind.i64 0],none⟩
def ty77:Ty:=⟨.struct [(0,3),(1,28),(2,28)],3,56,[Go.Value.int Go.IntKind.i64 0,Go.Value.slice none 0 0,Go.Value.slice none 0 0],none⟩
def ty78:Ty:=⟨.slice 191,1,24,[Go.Value.slice none 0 0],none⟩
def ty80:Ty:=⟨.struct [(0,63),(3,77),(6,4),(7,78)],8,144,[Go.Value.slice none 0 0,Go.Value.slice none 0 0,Go.Value.int Go.IntKind.i64 0,Go.Value.int Go.IntKind.i64 0,Go.Value.slice none 0 0,Go.Value.slice none 0 0,Go.Value.bool false,Go.Value.slice none 0 0],none⟩
def ty90:Ty:=⟨.other,1,8,[Go.Value.pointer none],none⟩
def ty105:Ty:=⟨.other,1,8,[Go.Value.pointer none],none⟩
def ty107:Ty:=⟨.map 9 4,1,8,[Go.Value.map none],none⟩
def ty109:Ty:=⟨.struct [(0,26),(3,107)],4,64,[Go.Value.slice none 0 0,Go.Value.slice none 0 0,Go.Value.int Go.IntKind.i64 0,Go.Value.map none],none⟩
def ty111:Ty:=⟨.other,1,8,[Go.Value.nilFunc],none⟩
def ty117:Ty:=⟨.other,1,8,[Go.Value.nilFunc],none⟩
def ty122:Ty:=⟨.other,1,8,[Go.Value.nilFunc],none⟩
def ty145:Ty:=⟨.struct [(0,22),(1,3),(2,3)],3,40,[Go.Value.slice none 0 0,Go.Value.int Go.IntKind.i64 0,Go.Value.int Go.IntKind.i64 0],none⟩
def ty147:Ty:=⟨.struct [(0,9),(1,28),(2,3)],3,48,[Go.Value.string { data:=#[] },Go.Value.slice none 0 0,Go.Value.int Go.IntKind.i64 0],none⟩
def ty150:Ty:=⟨.other,1,8,[Go.Value.nilFunc],none⟩
def ty153:Ty:=⟨.struct [(0,3),(1,3),(2,3),(3,3),(4,4)],5,40,[Go.Value.int Go.IntKind.i64 0,Go.Value.int Go.IntKind.i64 0,Go.Value.int Go.IntKind.i64 0,Go.Value.int Go.IntKind.i64 0,Go.Value.bool false],some [(0,3),(1,3),(2,3),(3,3),(4,4)]⟩
def ty168:Ty:=⟨.other,1,8,[Go.Value.nilFunc],none⟩
def ty176:Ty:=⟨.int .u64,1,8,[Go.Value.int Go.IntKind.u64 0],none⟩
def ty179:Ty:=⟨.other,1,8,[Go.Value.nilFunc],none⟩
def ty184:Ty:=⟨.struct [(0,9),(1,28),(2,3)],3,48,[Go.Value.string { data:=#[] },Go.Value.slice none 0 0,Go.Value.int Go.IntKind.i64 0],none⟩
def ty187:Ty:=⟨.struct [(0,3),(1,3),(2,3),(3,3),(4,4)],5,40,[Go.Value.int Go.IntKind.i64 0,Go.Value.int Go.IntKind.i64 0,Go.Value.int Go.IntKind.i64 0,Go.Value.int Go.IntKind.i64 0,Go.Value.bool false],some [(0,3),(1,3),(2,3),(3,3),(4,4)]⟩
def ty191:Ty:=⟨.struct [(0,3),(1,28),(2,28),(3,28)],4,80,[Go.Value.int Go.IntKind.i64 0,Go.Value.slice none 0 0,Go.Value.slice none 0 0,Go.Value.slice none 0 0],none⟩
def ty196:Ty:=⟨.other,1,8,[Go.Value.nilFunc],none⟩
def ty209:Ty:=⟨.slice 9,1,24,[Go.Value.slice none 0 0],none⟩
def ty211:Ty:=⟨.int .u32,1,4,[Go.Value.int Go.IntKind.u32 0],none⟩
def ty214:Ty:=⟨.int .u64,1,8,[Go.Value.int Go.IntKind.u64 0],none⟩
def ty219:Ty:=⟨.int .i64,1,8,[Go.Value.int Go.IntKind.i64 0],none⟩
def ty237:Ty:=⟨.slice 4,1,24,[Go.Value.slice none 0 0],none⟩
def tys:List Ty:=[unkTy,ty1,ty2,ty3,ty4,ty5,ty6,unkTy,ty8,ty9,unkTy,unkTy,unkTy,unkTy,unkTy,unkTy,unkTy,unkTy,unkTy,unkTy,ty20,unkTy,ty22,ty23,ty24,unkTy,ty26,unkTy,ty28,unkTy,ty30,ty31,unkTy,ty33,unkTy,unkTy,unkTy,ty37,unkTy,unkTy,unkTy,unkTy,ty42,unkTy,unkTy,unkTy,unkTy,ty47,unkTy,unkTy,unkTy,unkTy,unkTy,unkTy,unkTy,unkTy,unkTy,unkTy,unkTy,unkTy,ty60,ty61,unkTy,ty63,unkTy,unkTy,unkTy,unkTy,unkTy,unkTy,unkTy,unkTy,unkTy,unkTy,unkTy,unkTy,unkTy,ty77,ty78,unkTy,ty80,unkTy,unkTy,unkTy,unkTy,unkTy,unkTy,unkTy,unkTy,unkTy,ty90,unkTy,unkTy,unkTy,unkTy,unkTy,unkTy,unkTy,unkTy,unkTy,unkTy,unkTy,unkTy,unkTy,unkTy,ty105,unkTy,ty107,unkTy,ty109,unkTy,ty111,unkTy,unkTy,unkTy,unkTy,unkTy,ty117,unkTy,unkTy,unkTy,unkTy,ty122,unkTy,unkTy,unkTy,unkTy,unkTy,unkTy,unkTy,unkTy,unkTy,unkTy,unkTy,unkTy,unkTy,unkTy,unkTy,unkTy,unkTy,unkTy,unkTy,unkTy,unkTy,unkTy,ty145,unkTy,ty147,unkTy,unkTy,ty150,unkTy,unkTy,ty153,unkTy,unkTy,unkTy,unkTy,unkTy,unkTy,unkTy,unkTy,unkTy,unkTy,unkTy,unkTy,unkTy,unkTy,ty168,unkTy,unkTy,unkTy,unkTy,unkTy,unkTy,unkTy,ty176,unkTy,unkTy,ty179,unkTy,unkTy,unkTy,unkTy,ty184,unkTy,unkTy,ty187,unkTy,unkTy,unkTy,ty191,unkTy,unkTy,unkTy,unkTy,ty196,unkTy,unkTy,unkTy,unkTy,unkTy,unkTy,unkTy,unkTy,unkTy,unkTy,unkTy,unkTy,ty209,unkTy,ty211,unkTy,unkTy,ty214,unkTy,unkTy,unkTy,unkTy,ty219,unkTy,unkTy,unkTy,unkTy,unkTy,unkTy,unkTy,unkTy,unkTy,unkTy,unkTy,unkTy,unkTy,unkTy,unkTy,unkTy,unkTy,ty237]
def T (t:Nat):Ty:=tys.getD t unkTy
inductive bA (P:Program):Nat→List Ty→Prop
 | nil (k:Nat):bA P k []
 | cons {k:Nat} {ty:Ty} {l:List Ty} (h:TyOk P k ty) (r:bA P (k+1) l):bA P k (ty::l)
theorem bA.get {P:Program}:∀ {l:List Ty} {k:Nat},bA P k l→∀ i,TyOk P (k+i) (l.getD i unkTy)
 | _,_,.nil _,i=>by simp [unkTy,TyOk]
 | _,_,.cons h r,0=>h
 | _,_,.cons (k:=k) h r,i+1=>by
  have:=r.get i
  rw [show k+1+i=k+(i+1) by omega] at this
  simpa using this
theorem am (P:Program)(t:Nat):TyOk P t unkTy:=by simp [unkTy,TyOk]
theorem aH {P:Program}{t:Nat}{ty:Ty}{i:TypeInfo}{z:Value}(hs:t<P.types.size)(h1:P.types[t]?=some i)(h2:i.zero=some z)(h:i.size=ty.size∧i.bytes=ty.bytes∧z.cells.toList=ty.zero∧ty.zero.length=ty.size)(h3:ty.zero.all (fun v=>v.oneCell')=true)(h4:cN P t ty.kind)(h5:∀ fs,ty.eqs=some fs→∃ fields:Array Field,P.underlying t=some (.struct fields)∧fields.toList.map (fun f=>(f.offset,f.type))=fs∧(∀ f,f∈fields.toList→f.name ≠ "_")∧P.stoodInHeld t=false∧P.eqGuardType P.depth t=false):TyOk P t ty:=by
 unfold TyOk
 split
 ·trivial
 ·exact ⟨⟨i,z,(by unfold Tables.info?;rw [if_pos hs];exact h1),h.1,h.2.1,h2,h.2.2.1,h.2.2.2⟩,fun v hv=>List.all_eq_true.1 h3 v hv,h4,h5⟩
theorem PA:TyOk Tryz.prog 1 ty1:=aH (i:=Tryz.t1) (by rw [Tryz.types_size];decide) Tryz.type1 rfl ⟨rfl,rfl,rfl,rfl⟩ rfl (by exact ⟨_,Tryz.underlying1,rfl⟩) (by intro fs h;cases h)
theorem PB:TyOk Tryz.prog 2 ty2:=aH (i:=Tryz.t2) (by rw [Tryz.types_size];decide) Tryz.type2 rfl ⟨rfl,rfl,rfl,rfl⟩ rfl (by exact Tryz.underlying2) (by intro fs h;cases h)
theorem PC:TyOk Tryz.prog 3 ty3:=aH (i:=Tryz.t3) (by rw [Tryz.types_size];decide) Tryz.type3 rfl ⟨rfl,rfl,rfl,rfl⟩ rfl (by exact Tryz.underlying3) (by intro fs h;cases h)
theorem PD:TyOk Tryz.prog 4 ty4:=aH (i:=Tryz.t4) (by rw [Tryz.types_size];decide) Tryz.type4 rfl ⟨rfl,rfl,rfl,rfl⟩ rfl (by exact Tryz.underlying4) (by intro fs h;cases h)
theorem PE:TyOk Tryz.prog 5 ty5:=aH (i:=Tryz.t5) (by rw [Tryz.types_size];decide) Tryz.type5 rfl ⟨rfl,rfl,rfl,rfl⟩ rfl (by exact Tryz.underlying5) (by intro fs h;cases h)
theorem PF:TyOk Tryz.prog 6 ty6:=aH (i:=Tryz.t6) (by rw [Tryz.types_size];decide) Tryz.type6 rfl ⟨rfl,rfl,rfl,rfl⟩ rfl (by exact Tryz.underlying6) (by intro fs h;cases h)
theorem PG:TyOk Tryz.prog 8 ty8:=aH (i:=Tryz.t8) (by rw [Tryz.types_size];decide) Tryz.type8 rfl ⟨rfl,rfl,rfl,rfl⟩ rfl (by exact ⟨_,Tryz.underlying8,rfl⟩) (by intro fs h;cases h)
theorem PH:TyOk Tryz.prog 9 ty9:=aH (i:=Tryz.t9) (by rw [Tryz.types_size];decide) Tryz.type9 rfl ⟨rfl,rfl,rfl,rfl⟩ rfl (by exact Tryz.underlying9) (by intro fs h;cases h)
theorem NU:TyOk Tryz.prog 20 ty20:=aH (i:=Tryz.t20) (by rw [Tryz.types_size];decide) Tryz.type20 rfl ⟨rfl,rfl,rfl,rfl⟩ rfl (by exact ⟨_,Tryz.underlying20,rfl⟩) (by intro fs h;cases h)
theorem NV:TyOk Tryz.prog 22 ty22:=aH (i:=Tryz.t22) (by rw [Tryz.types_size];decide) Tryz.type22 rfl ⟨rfl,rfl,rfl,rfl⟩ rfl (by exact Tryz.underlying22) (by intro fs h;cases h)
theorem NW:TyOk Tryz.prog 23 ty23:=aH (i:=Tryz.t23) (by rw [Tryz.types_size];decide) Tryz.type23 rfl ⟨rfl,rfl,rfl,rfl⟩ rfl (by exact Tryz.underlying23) (by intro fs h;cases h)
theorem NX:TyOk Tryz.prog 24 ty24:=aH (i:=Tryz.t24) (by rw [Tryz.types_size];decide) Tryz.type24 rfl ⟨rfl,rfl,rfl,rfl⟩ rfl (by exact Tryz.underlying24) (by intro fs h;cases h)
theorem NY:TyOk Tryz.prog 26 ty26:=aH (i:=Tryz.t26) (by rw [Tryz.types_size];decide) Tryz.type26 rfl ⟨rfl,rfl,rfl,rfl⟩ rfl (by exact ⟨_,Tryz.underlying26,rfl⟩) (by intro fs h;cases h)
theorem NZ:TyOk Tryz.prog 28 ty28:=aH (i:=Tryz.t28) (by rw [Tryz.types_size];decide) Tryz.type28 rfl ⟨rfl,rfl,rfl,rfl⟩ rfl (by exact Tryz.underlying28) (by intro fs h;cases h)
theorem Oa:TyOk Tryz.prog 30 ty30:=aH (i:=Tryz.t30) (by rw [Tryz.types_size];decide) Tryz.type30 rfl ⟨rfl,rfl,rfl,rfl⟩ rfl (by exact ⟨_,Tryz.underlying30,rfl⟩) (by intro fs h;cases h)
theorem Ob:TyOk Tryz.prog 31 ty31:=aH (i:=Tryz.t31) (by rw [Tryz.types_size];decide) Tryz.type31 rfl ⟨rfl,rfl,rfl,rfl⟩ rfl (by exact Tryz.underlying31) (by intro fs h;cases h)
theorem Oc:TyOk Tryz.prog 33 ty33:=aH (i:=Tryz.t33) (by rw [Tryz.types_size];decide) Tryz.type33 rfl ⟨rfl,rfl,rfl,rfl⟩ rfl (by exact ⟨_,Tryz.underlying33,rfl⟩) (by intro fs h;cases h)
theorem Od:TyOk Tryz.prog 37 ty37:=aH (i:=Tryz.t37) (by rw [Tryz.types_size];decide) Tryz.type37 rfl ⟨rfl,rfl,rfl,rfl⟩ rfl (by exact ⟨_,Tryz.underlying37,rfl⟩) (by intro fs h;cases h)
theorem Oe:TyOk Tryz.prog 42 ty42:=aH (i:=Tryz.t42) (by rw [Tryz.types_size];decide) Tryz.type42 rfl ⟨rfl,rfl,rfl,rfl⟩ rfl (by exact ⟨_,Tryz.underlying42,rfl⟩) (by intro fs h;cases h)
theorem Of:TyOk Tryz.prog 47 ty47:=aH (i:=Tryz.t47) (by rw [Tryz.types_size];decide) Tryz.type47 rfl ⟨rfl,rfl,rfl,rfl⟩ rfl (by exact Tryz.underlying47) (by intro fs h;cases h)
theorem Og:TyOk Tryz.prog 60 ty60:=aH (i:=Tryz.t60) (by rw [Tryz.types_size];decide) Tryz.type60 rfl ⟨rfl,rfl,rfl,rfl⟩ rfl (by exact Tryz.underlying60) (by intro fs h;cases h)
theorem Oh:TyOk Tryz.prog 61 ty61:=aH (i:=Tryz.t61) (by rw [Tryz.types_size];decide) Tryz.type61 rfl ⟨rfl,rfl,rfl,rfl⟩ rfl (by exact Tryz.underlying61) (by intro fs h;cases h)
theorem Oi:TyOk Tryz.prog 63 ty63:=aH (i:=Tryz.t63) (by rw [Tryz.types_size];decide) Tryz.type63 rfl ⟨rfl,rfl,rfl,rfl⟩ rfl (by exact ⟨_,Tryz.underlying63,rfl⟩) (by intro fs h;cases h)
theorem Oj:TyOk Tryz.prog 77 ty77:=aH (i:=Tryz.t77) (by rw [Tryz.types_size];decide) Tryz.type77 rfl ⟨rfl,rfl,rfl,rfl⟩ rfl (by exact ⟨_,Tryz.underlying77,rfl⟩) (by intro fs h;cases h)
theorem Ok:TyOk Tryz.prog 78 ty78:=aH (i:=Tryz.t78) (by rw [Tryz.types_size];decide) Tryz.type78 rfl ⟨rfl,rfl,rfl,rfl⟩ rfl (by exact Tryz.underlying78) (by intro fs h;cases h)
theorem Ol:TyOk Tryz.prog 80 ty80:=aH (i:=Tryz.t80) (by rw [Tryz.types_size];decide) Tryz.type80 rfl ⟨rfl,rfl,rfl,rfl⟩ rfl (by exact ⟨_,Tryz.underlying80,rfl⟩) (by intro fs h;cases h)
theorem Om:TyOk Tryz.prog 90 ty90:=aH (i:=Tryz.t90) (by rw [Tryz.types_size];decide) Tryz.type90 rfl ⟨rfl,rfl,rfl,rfl⟩ rfl (by exact ⟨_,Tryz.underlying90,rfl⟩) (by intro fs h;cases h)
theorem KW:TyOk Tryz.prog 105 ty105:=aH (i:=Tryz.t105) (by rw [Tryz.types_size];decide) Tryz.type105 rfl ⟨rfl,rfl,rfl,rfl⟩ rfl (by exact ⟨_,Tryz.underlying105,rfl⟩) (by intro fs h;cases h)
theorem KX:TyOk Tryz.prog 107 ty107:=aH (i:=Tryz.t107) (by rw [Tryz.types_size];decide) Tryz.type107 rfl ⟨rfl,rfl,rfl,rfl⟩ rfl (by exact Tryz.underlying107) (by intro fs h;cases h)
theorem KY:TyOk Tryz.prog 109 ty109:=aH (i:=Tryz.t109) (by rw [Tryz.types_size];decide) Tryz.type109 rfl ⟨rfl,rfl,rfl,rfl⟩ rfl (by exact ⟨_,Tryz.underlying109,rfl⟩) (by intro fs h;cases h)
theorem KZ:TyOk Tryz.prog 111 ty111:=aH (i:=Tryz.t111) (by rw [Tryz.types_size];decide) Tryz.type111 rfl ⟨rfl,rfl,rfl,rfl⟩ rfl (by exact ⟨_,Tryz.underlying111,rfl⟩) (by intro fs h;cases h)
theorem La:TyOk Tryz.prog 117 ty117:=aH (i:=Tryz.t117) (by rw [Tryz.types_size];decide) Tryz.type117 rfl ⟨rfl,rfl,rfl,rfl⟩ rfl (by exact ⟨_,Tryz.underlying117,rfl⟩) (by intro fs h;cases h)
theorem Lb:TyOk Tryz.prog 122 ty122:=aH (i:=Tryz.t122) (by rw [Tryz.types_size];decide) Tryz.type122 rfl ⟨rfl,rfl,rfl,rfl⟩ rfl (by exact ⟨_,Tryz.underlying122,rfl⟩) (by intro fs h;cases h)
theorem Lc:TyOk Tryz.prog 145 ty145:=aH (i:=Tryz.t145) (by rw [Tryz.types_size];decide) Tryz.type145 rfl ⟨rfl,rfl,rfl,rfl⟩ rfl (by exact ⟨_,Tryz.underlying145,rfl⟩) (by intro fs h;cases h)
theorem Ld:TyOk Tryz.prog 147 ty147:=aH (i:=Tryz.t147) (by rw [Tryz.types_size];decide) Tryz.type147 rfl ⟨rfl,rfl,rfl,rfl⟩ rfl (by exact ⟨_,Tryz.underlying147,rfl⟩) (by intro fs h;cases h)
theorem Le:TyOk Tryz.prog 150 ty150:=aH (i:=Tryz.t150) (by rw [Tryz.types_size];decide) Tryz.type150 rfl ⟨rfl,rfl,rfl,rfl⟩ rfl (by exact ⟨_,Tryz.underlying150,rfl⟩) (by intro fs h;cases h)
theorem Lf:TyOk Tryz.prog 153 ty153:=aH (i:=Tryz.t153) (by rw [Tryz.types_size];decide) Tryz.type153 rfl ⟨rfl,rfl,rfl,rfl⟩ rfl (by exact ⟨_,Tryz.underlying153,rfl⟩) (by intro fs h;cases h;exact ⟨_,Tryz.underlying153,rfl,by decide,by kernel_rfl,by kernel_rfl⟩)
theorem Lg:TyOk Tryz.prog 168 ty168:=aH (i:=Tryz.t168) (by rw [Tryz.types_size];decide) Tryz.type168 rfl ⟨rfl,rfl,rfl,rfl⟩ rfl (by exact ⟨_,Tryz.underlying168,rfl⟩) (by intro fs h;cases h)
theorem Lh:TyOk Tryz.prog 176 ty176:=aH (i:=Tryz.t176) (by rw [Tryz.types_size];decide) Tryz.type176 rfl ⟨rfl,rfl,rfl,rfl⟩ rfl (by exact Tryz.underlying176) (by intro fs h;cases h)
theorem Li:TyOk Tryz.prog 179 ty179:=aH (i:=Tryz.t179) (by rw [Tryz.types_size];decide) Tryz.type179 rfl ⟨rfl,rfl,rfl,rfl⟩ rfl (by exact ⟨_,Tryz.underlying179,rfl⟩) (by intro fs h;cases h)
theorem Lj:TyOk Tryz.prog 184 ty184:=aH (i:=Tryz.t184) (by rw [Tryz.types_size];decide) Tryz.type184 rfl ⟨rfl,rfl,rfl,rfl⟩ rfl (by exact ⟨_,Tryz.underlying184,rfl⟩) (by intro fs h;cases h)
theorem Lk:TyOk Tryz.prog 187 ty187:=aH (i:=Tryz.t187) (by rw [Tryz.types_size];decide) Tryz.type187 rfl ⟨rfl,rfl,rfl,rfl⟩ rfl (by exact ⟨_,Tryz.underlying187,rfl⟩) (by intro fs h;cases h;exact ⟨_,Tryz.underlying187,rfl,by decide,by kernel_rfl,by kernel_rfl⟩)
theorem Ll:TyOk Tryz.prog 191 ty191:=aH (i:=Tryz.t191) (by rw [Tryz.types_size];decide) Tryz.type191 rfl ⟨rfl,rfl,rfl,rfl⟩ rfl (by exact ⟨_,Tryz.underlying191,rfl⟩) (by intro fs h;cases h)
theorem Lm:TyOk Tryz.prog 196 ty196:=aH (i:=Tryz.t196) (by rw [Tryz.types_size];decide) Tryz.type196 rfl ⟨rfl,rfl,rfl,rfl⟩ rfl (by exact ⟨_,Tryz.underlying196,rfl⟩) (by intro fs h;cases h)
theorem Ln:TyOk Tryz.prog 209 ty209:=aH (i:=Tryz.t209) (by rw [Tryz.types_size];decide) Tryz.type209 rfl ⟨rfl,rfl,rfl,rfl⟩ rfl (by exact Tryz.underlying209) (by intro fs h;cases h)
theorem Lo:TyOk Tryz.prog 211 ty211:=aH (i:=Tryz.t211) (by rw [Tryz.types_size];decide) Tryz.type211 rfl ⟨rfl,rfl,rfl,rfl⟩ rfl (by exact Tryz.underlying211) (by intro fs h;cases h)
theorem Lp:TyOk Tryz.prog 214 ty214:=aH (i:=Tryz.t214) (by rw [Tryz.types_size];decide) Tryz.type214 rfl ⟨rfl,rfl,rfl,rfl⟩ rfl (by exact Tryz.underlying214) (by intro fs h;cases h)
theorem Lq:TyOk Tryz.prog 219 ty219:=aH (i:=Tryz.t219) (by rw [Tryz.types_size];decide) Tryz.type219 rfl ⟨rfl,rfl,rfl,rfl⟩ rfl (by exact Tryz.underlying219) (by intro fs h;cases h)
theorem Lr:TyOk Tryz.prog 237 ty237:=aH (i:=Tryz.t237) (by rw [Tryz.types_size];decide) Tryz.type237 rfl ⟨rfl,rfl,rfl,rfl⟩ rfl (by exact Tryz.underlying237) (by intro fs h;cases h)
theorem On {l:List Ty}(r:bA Tryz.prog 16 l):bA Tryz.prog 0 (unkTy::ty1::ty2::ty3::ty4::ty5::ty6::unkTy::ty8::ty9::unkTy::unkTy::unkTy::unkTy::unkTy::unkTy::l):=
 .cons (am _ _) (.cons PA (.cons PB (.cons PC (.cons PD (.cons PE (.cons PF (.cons (am _ _) (.cons PG (.cons PH (.cons (am _ _) (.cons (am _ _) (.cons (am _ _) (.cons (am _ _) (.cons (am _ _) (.cons (am _ _) (r))))))))))))))))
theorem Ls {l:List Ty}(r:bA Tryz.prog 32 l):bA Tryz.prog 16 (unkTy::unkTy::unkTy::unkTy::ty20::unkTy::ty22::ty23::ty24::unkTy::ty26::unkTy::ty28::unkTy::ty30::ty31::l):=
 .cons (am _ _) (.cons (am _ _) (.cons (am _ _) (.cons (am _ _) (.cons NU (.cons (am _ _) (.cons NV (.cons NW (.cons NX (.cons (am _ _) (.cons NY (.cons (am _ _) (.cons NZ (.cons (am _ _) (.cons Oa (.cons Ob (r))))))))))))))))
theorem Lt {l:List Ty}(r:bA Tryz.prog 48 l):bA Tryz.prog 32 (unkTy::ty33::unkTy::unkTy::unkTy::ty37::unkTy::unkTy::unkTy::unkTy::ty42::unkTy::unkTy::unkTy::unkTy::ty47::l):=
 .cons (am _ _) (.cons Oc (.cons (am _ _) (.cons (am _ _) (.cons (am _ _) (.cons Od (.cons (am _ _) (.cons (am _ _) (.cons (am _ _) (.cons (am _ _) (.cons Oe (.cons (am _ _) (.cons (am _ _) (.cons (am _ _) (.cons (am _ _) (.cons Of (r))))))))))))))))
theorem Lu {l:List Ty}(r:bA Tryz.prog 64 l):bA Tryz.prog 48 (unkTy::unkTy::unkTy::unkTy::unkTy::unkTy::unkTy::unkTy::unkTy::unkTy::unkTy::unkTy::ty60::ty61::unkTy::ty63::l):=
 .cons (am _ _) (.cons (am _ _) (.cons (am _ _) (.cons (am _ _) (.cons (am _ _) (.cons (am _ _) (.cons (am _ _) (.cons (am _ _) (.cons (am _ _) (.cons (am _ _) (.cons (am _ _) (.cons (am _ _) (.cons Og (.cons Oh (.cons (am _ _) (.cons Oi (r))))))))))))))))
theorem Lv {l:List Ty}(r:bA Tryz.prog 80 l):bA Tryz.prog 64 (unkTy::unkTy::unkTy::unkTy::unkTy::unkTy::unkTy::unkTy::unkTy::unkTy::unkTy::unkTy::unkTy::ty77::ty78::unkTy::l):=
 .cons (am _ _) (.cons (am _ _) (.cons (am _ _) (.cons (am _ _) (.cons (am _ _) (.cons (am _ _) (.cons (am _ _) (.cons (am _ _) (.cons (am _ _) (.cons (am _ _) (.cons (am _ _) (.cons (am _ _) (.cons (am _ _) (.cons Oj (.cons Ok (.cons (am _ _) (r))))))))))))))))
theorem Lw {l:List Ty}(r:bA Tryz.prog 96 l):bA Tryz.prog 80 (ty80::unkTy::unkTy::unkTy::unkTy::unkTy::unkTy::unkTy::unkTy::unkTy::ty90::unkTy::unkTy::unkTy::unkTy::unkTy::l):=
 .cons Ol (.cons (am _ _) (.cons (am _ _) (.cons (am _ _) (.cons (am _ _) (.cons (am _ _) (.cons (am _ _) (.cons (am _ _) (.cons (am _ _) (.cons (am _ _) (.cons Om (.cons (am _ _) (.cons (am _ _) (.cons (am _ _) (.cons (am _ _) (.cons (am _ _) (r))))))))))))))))
theorem Lx {l:List Ty}(r:bA Tryz.prog 112 l):bA Tryz.prog 96 (unkTy::unkTy::unkTy::unkTy::unkTy::unkTy::unkTy::unkTy::unkTy::ty105::unkTy::ty107::unkTy::ty109::unkTy::ty111::l):=
 .cons (am _ _) (.cons (am _ _) (.cons (am _ _) (.cons (am _ _) (.cons (am _ _) (.cons (am _ _) (.cons (am _ _) (.cons (am _ _) (.cons (am _ _) (.cons KW (.cons (am _ _) (.cons KX (.cons (am _ _) (.cons KY (.cons (am _ _) (.cons KZ (r))))))))))))))))
theorem JK {l:List Ty}(r:bA Tryz.prog 128 l):bA Tryz.prog 112 (unkTy::unkTy::unkTy::unkTy::unkTy::ty117::unkTy::unkTy::unkTy::unkTy::ty122::unkTy::unkTy::unkTy::unkTy::unkTy::l):=
 .cons (am _ _) (.cons (am _ _) (.cons (am _ _) (.cons (am _ _) (.cons (am _ _) (.cons La (.cons (am _ _) (.cons (am _ _) (.cons (am _ _) (.cons (am _ _) (.cons Lb (.cons (am _ _) (.cons (am _ _) (.cons (am _ _) (.cons (am _ _) (.cons (am _ _) (r))))))))))))))))
theorem JL {l:List Ty}(r:bA Tryz.prog 144 l):bA Tryz.prog 128 (unkTy::unkTy::unkTy::unkTy::unkTy::unkTy::unkTy::unkTy::unkTy::unkTy::unkTy::unkTy::unkTy::unkTy::unkTy::unkTy::l):=
 .cons (am _ _) (.cons (am _ _) (.cons (am _ _) (.cons (am _ _) (.cons (am _ _) (.cons (am _ _) (.cons (am _ _) (.cons (am _ _) (.cons (am _ _) (.cons (am _ _) (.cons (am _ _) (.cons (am _ _) (.cons (am _ _) (.cons (am _ _) (.cons (am _ _) (.cons (am _ _) (r))))))))))))))))
theorem JM {l:List Ty}(r:bA Tryz.prog 160 l):bA Tryz.prog 144 (unkTy::ty145::unkTy::ty147::unkTy::unkTy::ty150::unkTy::unkTy::ty153::unkTy::unkTy::unkTy::unkTy::unkTy::unkTy::l):=
 .cons (am _ _) (.cons Lc (.cons (am _ _) (.cons Ld (.cons (am _ _) (.cons (am _ _) (.cons Le (.cons (am _ _) (.cons (am _ _) (.cons Lf (.cons (am _ _) (.cons (am _ _) (.cons (am _ _) (.cons (am _ _) (.cons (am _ _) (.cons (am _ _) (r))))))))))))))))
theorem JN {l:List Ty}(r:bA Tryz.prog 176 l):bA Tryz.prog 160 (unkTy::unkTy::unkTy::unkTy::unkTy::unkTy::unkTy::unkTy::ty168::unkTy::unkTy::unkTy::unkTy::unkTy::unkTy::unkTy::l):=
 .cons (am _ _) (.cons (am _ _) (.cons (am _ _) (.cons (am _ _) (.cons (am _ _) (.cons (am _ _) (.cons (am _ _) (.cons (am _ _) (.cons Lg (.cons (am _ _) (.cons (am _ _) (.cons (am _ _) (.cons (am _ _) (.cons (am _ _) (.cons (am _ _) (.cons (am _ _) (r))))))))))))))))
theorem JO {l:List Ty}(r:bA Tryz.prog 192 l):bA Tryz.prog 176 (ty176::unkTy::unkTy::ty179::unkTy::unkTy::unkTy::unkTy::ty184::unkTy::unkTy::ty187::unkTy::unkTy::unkTy::ty191::l):=
 .cons Lh (.cons (am _ _) (.cons (am _ _) (.cons Li (.cons (am _ _) (.cons (am _ _) (.cons (am _ _) (.cons (am _ _) (.cons Lj (.cons (am _ _) (.cons (am _ _) (.cons Lk (.cons (am _ _) (.cons (am _ _) (.cons (am _ _) (.cons Ll (r))))))))))))))))
theorem JP {l:List Ty}(r:bA Tryz.prog 208 l):bA Tryz.prog 192 (unkTy::unkTy::unkTy::unkTy::ty196::unkTy::unkTy::unkTy::unkTy::unkTy::unkTy::unkTy::unkTy::unkTy::unkTy::unkTy::l):=
 .cons (am _ _) (.cons (am _ _) (.cons (am _ _) (.cons (am _ _) (.cons Lm (.cons (am _ _) (.cons (am _ _) (.cons (am _ _) (.cons (am _ _) (.cons (am _ _) (.cons (am _ _) (.cons (am _ _) (.cons (am _ _) (.cons (am _ _) (.cons (am _ _) (.cons (am _ _) (r))))))))))))))))
theorem JQ {l:List Ty}(r:bA Tryz.prog 224 l):bA Tryz.prog 208 (unkTy::ty209::unkTy::ty211::unkTy::unkTy::ty214::unkTy::unkTy::unkTy::unkTy::ty219::unkTy::unkTy::unkTy::unkTy::l):=
 .cons (am _ _) (.cons Ln (.cons (am _ _) (.cons Lo (.cons (am _ _) (.cons (am _ _) (.cons Lp (.cons (am _ _) (.cons (am _ _) (.cons (am _ _) (.cons (am _ _) (.cons Lq (.cons (am _ _) (.cons (am _ _) (.cons (am _ _) (.cons (am _ _) (r))))))))))))))))
theorem JR {l:List Ty}(r:bA Tryz.prog 238 l):bA Tryz.prog 224 (unkTy::unkTy::unkTy::unkTy::unkTy::unkTy::unkTy::unkTy::unkTy::unkTy::unkTy::unkTy::unkTy::ty237::l):=
 .cons (am _ _) (.cons (am _ _) (.cons (am _ _) (.cons (am _ _) (.cons (am _ _) (.cons (am _ _) (.cons (am _ _) (.cons (am _ _) (.cons (am _ _) (.cons (am _ _) (.cons (am _ _) (.cons (am _ _) (.cons (am _ _) (.cons Lr (r))))))))))))))
theorem hT (t:Nat):TyOk Tryz.prog t (T t):=by
 have h:bA Tryz.prog 0 tys:=On (Ls (Lt (Lu (Lv (Lw (Lx (JK (JL (JM (JN (JO (JP (JQ (JR (.nil _)))))))))))))))
 have:=h.get t
 rw [Nat.zero_add] at this
 exact this
section
open TK
@[simp,go_sem] theorem Tk3:(T 3).kind=.int .i64:=rfl
@[simp,go_sem] theorem Ts3:(T 3).size=1:=rfl
@[simp,go_sem] theorem Tb3:(T 3).bytes=8:=rfl
@[simp,go_sem] theorem Tz3:(T 3).zero=[Go.Value.int Go.IntKind.i64 0]:=rfl
@[simp,go_sem] theorem Tk4:(T 4).kind=.bool:=rfl
@[simp,go_sem] theorem Ts4:(T 4).size=1:=rfl
@[simp,go_sem] theorem Tb4:(T 4).bytes=1:=rfl
@[simp,go_sem] theorem Tk5:(T 5).kind=.int .u8:=rfl
@[simp,go_sem] theorem Ts5:(T 5).size=1:=rfl
@[simp,go_sem] theorem Tb5:(T 5).bytes=1:=rfl
@[simp,go_sem] theorem Tk9:(T 9).kind=.str:=rfl
@[simp,go_sem] theorem Ts9:(T 9).size=1:=rfl
@[simp,go_sem] theorem Tk22:(T 22).kind=.slice 5:=rfl
@[simp,go_sem] theorem Ts22:(T 22).size=1:=rfl
@[simp,go_sem] theorem Tk23:(T 23).kind=.slice 147:=rfl
@[simp,go_sem] theorem Ts23:(T 23).size=1:=rfl
@[simp,go_sem] theorem Tk24:(T 24).kind=.slice 153:=rfl
@[simp,go_sem] theorem Ts24:(T 24).size=1:=rfl
@[simp,go_sem] theorem Tk26:(T 26).kind=.struct [(0,23),(1,24),(2,3)]:=rfl
@[simp,go_sem] theorem Ts26:(T 26).size=3:=rfl
@[simp,go_sem] theorem Tz26:(T 26).zero=[Go.Value.slice none 0 0,Go.Value.slice none 0 0,Go.Value.int Go.IntKind.i64 0]:=rfl
@[simp,go_sem] theorem Tk28:(T 28).kind=.slice 3:=rfl
@[simp,go_sem] theorem Ts28:(T 28).size=1:=rfl
@[simp,go_sem] theorem Tb28:(T 28).bytes=24:=rfl
@[simp,go_sem] theorem Tz28:(T 28).zero=[Go.Value.slice none 0 0]:=rfl
@[simp,go_sem] theorem Tk30:(T 30).kind=.struct [(0,3),(1,28),(2,28)]:=rfl
@[simp,go_sem] theorem Ts30:(T 30).size=3:=rfl
@[simp,go_sem] theorem Tz30:(T 30).zero=[Go.Value.int Go.IntKind.i64 0,Go.Value.slice none 0 0,Go.Value.slice none 0 0]:=rfl
@[simp,go_sem] theorem Tk31:(T 31).kind=.slice 42:=rfl
@[simp,go_sem] theorem Ts31:(T 31).size=1:=rfl
@[simp,go_sem] theorem Tk33:(T 33).kind=.struct [(0,26),(3,30),(6,4),(7,31)]:=rfl
@[simp,go_sem] theorem Ts33:(T 33).size=8:=rfl
@[simp,go_sem] theorem Tz33:(T 33).zero=[Go.Value.slice none 0 0,Go.Value.slice none 0 0,Go.Value.int Go.IntKind.i64 0,Go.Value.int Go.IntKind.i64 0,Go.Value.slice none 0 0,Go.Value.slice none 0 0,Go.Value.bool false,Go.Value.slice none 0 0]:=rfl
@[simp,go_sem] theorem Tk37:(T 37).kind=.struct [(0,28),(1,28)]:=rfl
@[simp,go_sem] theorem Ts37:(T 37).size=2:=rfl
@[simp,go_sem] theorem Tz37:(T 37).zero=[Go.Value.slice none 0 0,Go.Value.slice none 0 0]:=rfl
@[simp,go_sem] theorem Tk42:(T 42).kind=.struct [(0,3),(1,28),(2,28),(3,28)]:=rfl
@[simp,go_sem] theorem Ts42:(T 42).size=4:=rfl
@[simp,go_sem] theorem Tb42:(T 42).bytes=80:=rfl
@[simp,go_sem] theorem Tz42:(T 42).zero=[Go.Value.int Go.IntKind.i64 0,Go.Value.slice none 0 0,Go.Value.slice none 0 0,Go.Value.slice none 0 0]:=rfl
@[simp,go_sem] theorem Tk47:(T 47).kind=.slice 28:=rfl
@[simp,go_sem] theorem Tk60:(T 60).kind=.slice 184:=rfl
@[simp,go_sem] theorem Ts60:(T 60).size=1:=rfl
@[simp,go_sem] theorem Tk61:(T 61).kind=.slice 187:=rfl
@[simp,go_sem] theorem Ts61:(T 61).size=1:=rfl
@[simp,go_sem] theorem Tk63:(T 63).kind=.struct [(0,60),(1,61),(2,3)]:=rfl
@[simp,go_sem] theorem Ts63:(T 63).size=3:=rfl
@[simp,go_sem] theorem Tk77:(T 77).kind=.struct [(0,3),(1,28),(2,28)]:=rfl
@[simp,go_sem] theorem Ts77:(T 77).size=3:=rfl
@[simp,go_sem] theorem Tk78:(T 78).kind=.slice 191:=rfl
@[simp,go_sem] theorem Ts78:(T 78).size=1:=rfl
@[simp,go_sem] theorem Tk80:(T 80).kind=.struct [(0,63),(3,77),(6,4),(7,78)]:=rfl
@[simp,go_sem] theorem Ts80:(T 80).size=8:=rfl
@[simp,go_sem] theorem UN:(T 105).kind=.other:=rfl
@[simp,go_sem] theorem UO:(T 107).kind=.map 9 4:=rfl
@[simp,go_sem] theorem UP:(T 107).size=1:=rfl
@[simp,go_sem] theorem UQ:(T 109).kind=.struct [(0,26),(3,107)]:=rfl
@[simp,go_sem] theorem UR:(T 109).zero=[Go.Value.slice none 0 0,Go.Value.slice none 0 0,Go.Value.int Go.IntKind.i64 0,Go.Value.map none]:=rfl
@[simp,go_sem] theorem US:(T 145).kind=.struct [(0,22),(1,3),(2,3)]:=rfl
@[simp,go_sem] theorem UT:(T 145).zero=[Go.Value.slice none 0 0,Go.Value.int Go.IntKind.i64 0,Go.Value.int Go.IntKind.i64 0]:=rfl
@[simp,go_sem] theorem UU:(T 147).kind=.struct [(0,9),(1,28),(2,3)]:=rfl
@[simp,go_sem] theorem UV:(T 147).size=3:=rfl
@[simp,go_sem] theorem UW:(T 147).bytes=48:=rfl
@[simp,go_sem] theorem UX:(T 147).zero=[Go.Value.string { data:=#[] },Go.Value.slice none 0 0,Go.Value.int Go.IntKind.i64 0]:=rfl
@[simp,go_sem] theorem UY:(T 153).kind=.struct [(0,3),(1,3),(2,3),(3,3),(4,4)]:=rfl
@[simp,go_sem] theorem UZ:(T 153).size=5:=rfl
@[simp,go_sem] theorem Va:(T 153).bytes=40:=rfl
@[simp,go_sem] theorem Vb:(T 153).zero=[Go.Value.int Go.IntKind.i64 0,Go.Value.int Go.IntKind.i64 0,Go.Value.int Go.IntKind.i64 0,Go.Value.int Go.IntKind.i64 0,Go.Value.bool false]:=rfl
@[simp,go_sem] theorem Vc:(T 176).kind=.int .u64:=rfl
@[simp,go_sem] theorem Vd:(T 184).kind=.struct [(0,9),(1,28),(2,3)]:=rfl
@[simp,go_sem] theorem Ve:(T 184).size=3:=rfl
@[simp,go_sem] theorem Vf:(T 187).kind=.struct [(0,3),(1,3),(2,3),(3,3),(4,4)]:=rfl
@[simp,go_sem] theorem Vg:(T 187).size=5:=rfl
@[simp,go_sem] theorem Vh:(T 191).kind=.struct [(0,3),(1,28),(2,28),(3,28)]:=rfl
@[simp,go_sem] theorem Vi:(T 191).size=4:=rfl
@[simp,go_sem] theorem Vj:(T 209).kind=.slice 9:=rfl
@[simp,go_sem] theorem Vk:(T 214).kind=.int .u64:=rfl
@[simp,go_sem] theorem Vl:(T 237).kind=.slice 4:=rfl
end
end Go.Proofs.QA
