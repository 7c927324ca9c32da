/- The types of the seat,and that they fit. Made by gentypes.py. -/
import Derived.Test.YtghfphjfkdbpjaaGreatY31
import Derived.KernelRfl
import Derived.Test.YtghfphjfkdbpjaaGreatProg
set_option linter.all false
namespace Go.Proofs.YtghfphjfkdbpjaaGreatY
open Go
def unkTy:Ty:=⟨.unknown,0,0,[],none⟩
def ty1:Ty:=⟨.other,1,8,[Go.Value.nilFunc],none⟩
def ty2:Ty:=⟨.int .i64,1,8,[Go.Value.int Go.IntKind.i64 0],none⟩
def ty3:Ty:=⟨.int .i64,1,8,[Go.Value.int Go.IntKind.i64 0],none⟩
def ty4:Ty:=⟨.bool,1,1,[Go.Value.bool false],none⟩
def ty5:Ty:=⟨.int .u8,1,1,[Go.Value.int Go.IntKind.u8 0],none⟩
def ty6:Ty:=⟨.int .u8,1,1,[Go.Value.int Go.IntKind.u8 0],none⟩
def ty8:Ty:=⟨.struct [(0,2),(1,3),(2,4),(3,6)],4,24,[Go.Value.int Go.IntKind.i64 0,Go.Value.int Go.IntKind.i64 0,Go.Value.bool false,Go.Value.int Go.IntKind.u8 0],none⟩
def ty9:Ty:=⟨.str,1,16,[Go.Value.string { data:=#[] }],none⟩
def ty20:Ty:=⟨.other,1,16,[Go.Value.nilIface],none⟩
def ty22:Ty:=⟨.slice 5,1,24,[Go.Value.slice none 0 0],none⟩
def ty23:Ty:=⟨.slice 147,1,24,[Go.Value.slice none 0 0],none⟩
def ty24:Ty:=⟨.slice 153,1,24,[Go.Value.slice none 0 0],none⟩
def ty26:Ty:=⟨.struct [(0,23),(1,24),(2,3)],3,56,[Go.Value.slice none 0 0,Go.Value.slice none 0 0,Go.Value.int Go.IntKind.i64 0],none⟩
def ty28:Ty:=⟨.slice 3,1,24,[Go.Value.slice none 0 0],none⟩
def ty30:Ty:=⟨.struct [(0,3),(1,28),(2,28)],3,56,[Go.Value.int Go.IntKind.i64 0,Go.Value.slice none 0 0,Go.Value.slice none 0 0],none⟩
def ty31:Ty:=⟨.slice 42,1,24,[Go.Value.slice none 0 0],none⟩
def ty33:Ty:=⟨.struct [(0,26),(3,30),(6,4),(7,31)],8,144,[Go.Value.slice none 0 0,Go.Value.slice none 0 0,Go.Value.int Go.IntKind.i64 0,Go.Value.int Go.IntKind.i64 0,Go.Value.slice none 0 0,Go.Value.slice none 0 0,Go.Value.bool false,Go.Value.slice none 0 0],none⟩
def ty37:Ty:=⟨.struct [(0,28),(1,28)],2,48,[Go.Value.slice none 0 0,Go.Value.slice none 0 0],none⟩
def ty42:Ty:=⟨.struct [(0,3),(1,28),(2,28),(3,28)],4,80,[Go.Value.int Go.IntKind.i64 0,Go.Value.slice none 0 0,Go.Value.slice none 0 0,Go.Value.slice none 0 0],none⟩
def ty47:Ty:=⟨.slice 28,1,24,[Go.Value.slice none 0 0],none⟩
def ty60:Ty:=⟨.slice 184,1,24,[Go.Value.slice none 0 0],none⟩
def ty61:Ty:=⟨.slice 187,1,24,[Go.Value.slice none 0 0],none⟩
def ty63:Ty:=⟨.struct [(0,60),(1,61),(2,3)],3,56,[Go.Value.slice none 0 0,Go.Value.slice none 0 0,Go.Value.int Go.IntKind.i64 0],none⟩
def ty64:Ty:=⟨.struct [(0,28),(1,28)],2,48,[Go.Value.slice none 0 0,Go.Value.slice none 0 0],none⟩
def ty77:Ty:=⟨.struct [(0,3),(1,28),(2,28)],3,56,[Go.Value.int Go.IntKind.i64 0,Go.Value.slice none 0 0,Go.Value.slice none 0 0],none⟩
def ty78:Ty:=⟨.slice 191,1,24,[Go.Value.slice none 0 0],none⟩
def ty80:Ty:=⟨.struct [(0,63),(3,77),(6,4),(7,78)],8,144,[Go.Value.slice none 0 0,Go.Value.slice none 0 0,Go.Value.int Go.IntKind.i64 0,Go.Value.int Go.IntKind.i64 0,Go.Value.slice none 0 0,Go.Value.slice none 0 0,Go.Value.bool false,Go.Value.slice none 0 0],none⟩
def ty90:Ty:=⟨.other,1,8,[Go.Value.pointer none],none⟩
def ty105:Ty:=⟨.other,1,8,[Go.Value.pointer none],none⟩
def ty107:Ty:=⟨.map 9 4,1,8,[Go.Value.map none],none⟩
def ty109:Ty:=⟨.struct [(0,26),(3,107)],4,64,[Go.Value.slice none 0 0,Go.Value.slice none 0 0,Go.Value.int Go.IntKind.i64 0,Go.Value.map none],none⟩
def ty111:Ty:=⟨.other,1,8,[Go.Value.nilFunc],none⟩
def ty117:Ty:=⟨.other,1,8,[Go.Value.nilFunc],none⟩
def ty122:Ty:=⟨.other,1,8,[Go.Value.nilFunc],none⟩
def ty145:Ty:=⟨.struct [(0,22),(1,3),(2,3)],3,40,[Go.Value.slice none 0 0,Go.Value.int Go.IntKind.i64 0,Go.Value.int Go.IntKind.i64 0],none⟩
def ty147:Ty:=⟨.struct [(0,9),(1,28),(2,3)],3,48,[Go.Value.string { data:=#[] },Go.Value.slice none 0 0,Go.Value.int Go.IntKind.i64 0],none⟩
def ty150:Ty:=⟨.other,1,8,[Go.Value.nilFunc],none⟩
def ty153:Ty:=⟨.struct [(0,3),(1,3),(2,3),(3,3),(4,4)],5,40,[Go.Value.int Go.IntKind.i64 0,Go.Value.int Go.IntKind.i64 0,Go.Value.int Go.IntKind.i64 0,Go.Value.int Go.IntKind.i64 0,Go.Value.bool false],some [(0,3),(1,3),(2,3),(3,3),(4,4)]⟩
def ty168:Ty:=⟨.other,1,8,[Go.Value.nilFunc],none⟩
def ty176:Ty:=⟨.int .u64,1,8,[Go.Value.int Go.IntKind.u64 0],none⟩
def ty179:Ty:=⟨.other,1,8,[Go.Value.nilFunc],none⟩
def ty184:Ty:=⟨.struct [(0,9),(1,28),(2,3)],3,48,[Go.Value.string { data:=#[] },Go.Value.slice none 0 0,Go.Value.int Go.IntKind.i64 0],none⟩
def ty187:Ty:=⟨.struct [(0,3),(1,3),(2,3),(3,3),(4,4)],5,40,[Go.Value.int Go.IntKind.i64 0,Go.Value.int Go.IntKind.i64 0,Go.Value.int Go.IntKind.i64 0,Go.Value.int Go.IntKind.i64 0,Go.Value.bool false],some [(0,3),(1,3),(2,3),(3,3),(4,4)]⟩
def ty191:Ty:=⟨.struct [(0,3),(1,28),(2,28),(3,28)],4,80,[Go.Value.int Go.IntKind.i64 0,Go.Value.slice none 0 0,Go.Value.slice none 0 0,Go.Value.slice none 0 0],none⟩
def ty196:Ty:=⟨.other,1,8,[Go.Value.nilFunc],none⟩
def ty209:Ty:=⟨.slice 9,1,24,[Go.Value.slice none 0 0],none⟩
def ty211:Ty:=⟨.int .u32,1,4,[Go.Value.int Go.IntKind.u32 0],none⟩
def ty214:Ty:=⟨.int .u64,1,8,[Go.Value.int Go.IntKind.u64 0],none⟩
def ty219:Ty:=⟨.int .i64,1,8,[Go.Value.int Go.IntKind.i64 0],none⟩
def ty237:Ty:=⟨.slice 4,1,24,[Go.Value.slice none 0 0],none⟩
def tys:List Ty:=[unkTy,ty1,ty2,ty3,ty4,ty5,ty6,unkTy,ty8,ty9,unkTy,unkTy,unkTy,unkTy,unkTy,unkTy,unkTy,unkTy,unkTy,unkTy,ty20,unkTy,ty22,ty23,ty24,unkTy,ty26,unkTy,ty28,unkTy,ty30,ty31,unkTy,ty33,unkTy,unkTy,unkTy,ty37,unkTy,unkTy,unkTy,unkTy,ty42,unkTy,unkTy,unkTy,unkTy,ty47,unkTy,unkTy,unkTy,unkTy,unkTy,unkTy,unkTy,unkTy,unkTy,unkTy,unkTy,unkTy,ty60,ty61,unkTy,ty63,ty64,unkTy,unkTy,unkTy,unkTy,unkTy,unkTy,unkTy,unkTy,unkTy,unkTy,unkTy,unkTy,ty77,ty78,unkTy,ty80,unkTy,unkTy,unkTy,unkTy,unkTy,unkTy,unkTy,unkTy,unkTy,ty90,unkTy,unkTy,unkTy,unkTy,unkTy,unkTy,unkTy,unkTy,unkTy,unkTy,unkTy,unkTy,unkTy,unkTy,ty105,unkTy,ty107,unkTy,ty109,unkTy,ty111,unkTy,unkTy,unkTy,unkTy,unkTy,ty117,unkTy,unkTy,unkTy,unkTy,ty122,unkTy,unkTy,unkTy,unkTy,unkTy,unkTy,unkTy,unkTy,unkTy,unkTy,unkTy,unkTy,unkTy,unkTy,unkTy,unkTy,unkTy,unkTy,unkTy,unkTy,unkTy,unkTy,ty145,unkTy,ty147,unkTy,unkTy,ty150,unkTy,unkTy,ty153,unkTy,unkTy,unkTy,unkTy,unkTy,unkTy,unkTy,unkTy,unkTy,unkTy,unkTy,unkTy,unkTy,unkTy,ty168,unkTy,unkTy,unkTy,unkTy,unkTy,unkTy,unkTy,ty176,unkTy,unkTy,ty179,unkTy,unkTy,unkTy,unkTy,ty184,unkTy,unkTy,ty187,unkTy,unkTy,unkTy,ty191,unkTy,unkTy,unkTy,unkTy,ty196,unkTy,unkTy,unkTy,unkTy,unkTy,unkTy,unkTy,unkTy,unkTy,unkTy,unkTy,unkTy,ty209,unkTy,ty211,unkTy,unkTy,ty214,unkTy,unkTy,unkTy,unkTy,ty219,unkTy,unkTy,unkTy,unkTy,unkTy,unkTy,unkTy,unkTy,unkTy,unkTy,unkTy,unkTy,unkTy,unkTy,unkTy,unkTy,unkTy,ty237]
def T (t:Nat):Ty:=tys.getD t unkTy
inductive bQ (P:Program):Nat→List Ty→Prop
 | nil (k:Nat):bQ P k []
 | cons {k:Nat} {ty:Ty} {l:List Ty} (h:TyOk P k ty) (r:bQ P (k+1) l):bQ P k (ty :: l)
theorem bQ.get {P:Program}:∀ {l:List Ty} {k:Nat},bQ P k l→∀ i,TyOk P (k+i) (l.getD i unkTy)
 | _,_,.nil _,i=>by simp [unkTy,TyOk]
 | _,_,.cons h r,0=>h
 | _,_,.cons (k:=k) h r,i+1=>by
  have:=r.get i
  rw [show k+1+i=k+(i+1) by omega] at this
  simpa using this
theorem al (P:Program)(t:Nat):TyOk P t unkTy:=by simp [unkTy,TyOk]
theorem aJ {P:Program}{t:Nat}{ty:Ty}{i:TypeInfo}{z:Value}(hs:t < P.types.size)(h1:P.types[t]?=some i)(h2:i.zero=some z)(h:i.size=ty.size∧i.bytes=ty.bytes∧z.cells.toList=ty.zero∧ty.zero.length=ty.size)(h3:ty.zero.all (fun v=>v.oneCell')=true)(h4:dv P t ty.kind)(h5:∀ fs,ty.eqs=some fs→∃ fields:Array Field,P.underlying t=some (.struct fields)∧fields.toList.map (fun f=>(f.offset,f.type))=fs∧(∀ f,f∈fields.toList→f.name ≠ "_")∧P.stoodInHeld t=false∧P.eqGuardType P.depth t=false):TyOk P t ty:=by
 unfold TyOk
 split
 ·trivial
 ·exact ⟨⟨i,z,(by unfold Tables.info?;rw [if_pos hs];exact h1),h.1,h.2.1,h2,h.2.2.1,h.2.2.2⟩,fun v hv=>List.all_eq_true.1 h3 v hv,h4,h5⟩
theorem SI:TyOk Tryz.prog 1 ty1:=aJ (i:=Tryz.t1) (by rw [Tryz.types_size];decide) Tryz.type1 rfl ⟨rfl,rfl,rfl,rfl⟩ rfl (by exact ⟨_,Tryz.underlying1,rfl⟩) (by intro fs h;cases h)
theorem SJ:TyOk Tryz.prog 2 ty2:=aJ (i:=Tryz.t2) (by rw [Tryz.types_size];decide) Tryz.type2 rfl ⟨rfl,rfl,rfl,rfl⟩ rfl (by exact Tryz.underlying2) (by intro fs h;cases h)
theorem SK:TyOk Tryz.prog 3 ty3:=aJ (i:=Tryz.t3) (by rw [Tryz.types_size];decide) Tryz.type3 rfl ⟨rfl,rfl,rfl,rfl⟩ rfl (by exact Tryz.underlying3) (by intro fs h;cases h)
theorem SL:TyOk Tryz.prog 4 ty4:=aJ (i:=Tryz.t4) (by rw [Tryz.types_size];decide) Tryz.type4 rfl ⟨rfl,rfl,rfl,rfl⟩ rfl (by exact Tryz.underlying4) (by intro fs h;cases h)
theorem SM:TyOk Tryz.prog 5 ty5:=aJ (i:=Tryz.t5) (by rw [Tryz.types_size];decide) Tryz.type5 rfl ⟨rfl,rfl,rfl,rfl⟩ rfl (by exact Tryz.underlying5) (by intro fs h;cases h)
theorem SN:TyOk Tryz.prog 6 ty6:=aJ (i:=Tryz.t6) (by rw [Tryz.types_size];decide) Tryz.type6 rfl ⟨rfl,rfl,rfl,rfl⟩ rfl (by exact Tryz.underlying6) (by intro fs h;cases h)
theorem SO:TyOk Tryz.prog 8 ty8:=aJ (i:=Tryz.t8) (by rw [Tryz.types_size];decide) Tryz.type8 rfl ⟨rfl,rfl,rfl,rfl⟩ rfl (by exact ⟨_,Tryz.underlying8,rfl⟩) (by intro fs h;cases h)
theorem SP:TyOk Tryz.prog 9 ty9:=aJ (i:=Tryz.t9) (by rw [Tryz.types_size];decide) Tryz.type9 rfl ⟨rfl,rfl,rfl,rfl⟩ rfl (by exact Tryz.underlying9) (by intro fs h;cases h)
theorem Rj:TyOk Tryz.prog 20 ty20:=aJ (i:=Tryz.t20) (by rw [Tryz.types_size];decide) Tryz.type20 rfl ⟨rfl,rfl,rfl,rfl⟩ rfl (by exact ⟨_,Tryz.underlying20,rfl⟩) (by intro fs h;cases h)
theorem Rk:TyOk Tryz.prog 22 ty22:=aJ (i:=Tryz.t22) (by rw [Tryz.types_size];decide) Tryz.type22 rfl ⟨rfl,rfl,rfl,rfl⟩ rfl (by exact Tryz.underlying22) (by intro fs h;cases h)
theorem Rl:TyOk Tryz.prog 23 ty23:=aJ (i:=Tryz.t23) (by rw [Tryz.types_size];decide) Tryz.type23 rfl ⟨rfl,rfl,rfl,rfl⟩ rfl (by exact Tryz.underlying23) (by intro fs h;cases h)
theorem Rm:TyOk Tryz.prog 24 ty24:=aJ (i:=Tryz.t24) (by rw [Tryz.types_size];decide) Tryz.type24 rfl ⟨rfl,rfl,rfl,rfl⟩ rfl (by exact Tryz.underlying24) (by intro fs h;cases h)
theorem Rn:TyOk Tryz.prog 26 ty26:=aJ (i:=Tryz.t26) (by rw [Tryz.types_size];decide) Tryz.type26 rfl ⟨rfl,rfl,rfl,rfl⟩ rfl (by exact ⟨_,Tryz.underlying26,rfl⟩) (by intro fs h;cases h)
theorem Ro:TyOk Tryz.prog 28 ty28:=aJ (i:=Tryz.t28) (by rw [Tryz.types_size];decide) Tryz.type28 rfl ⟨rfl,rfl,rfl,rfl⟩ rfl (by exact Tryz.underlying28) (by intro fs h;cases h)
theorem Rp:TyOk Tryz.prog 30 ty30:=aJ (i:=Tryz.t30) (by rw [Tryz.types_size];decide) Tryz.type30 rfl ⟨rfl,rfl,rfl,rfl⟩ rfl (by exact ⟨_,Tryz.underlying30,rfl⟩) (by intro fs h;cases h)
theorem Rq:TyOk Tryz.prog 31 ty31:=aJ (i:=Tryz.t31) (by rw [Tryz.types_size];decide) Tryz.type31 rfl ⟨rfl,rfl,rfl,rfl⟩ rfl (by exact Tryz.underlying31) (by intro fs h;cases h)
theorem Rr:TyOk Tryz.prog 33 ty33:=aJ (i:=Tryz.t33) (by rw [Tryz.types_size];decide) Tryz.type33 rfl ⟨rfl,rfl,rfl,rfl⟩ rfl (by exact ⟨_,Tryz.underlying33,rfl⟩) (by intro fs h;cases h)
theorem Rs:TyOk Tryz.prog 37 ty37:=aJ (i:=Tryz.t37) (by rw [Tryz.types_size];decide) Tryz.type37 rfl ⟨rfl,rfl,rfl,rfl⟩ rfl (by exact ⟨_,Tryz.underlying37,rfl⟩) (by intro fs h;cases h)
theorem Rt:TyOk Tryz.prog 42 ty42:=aJ (i:=Tryz.t42) (by rw [Tryz.types_size];decide) Tryz.type42 rfl ⟨rfl,rfl,rfl,rfl⟩ rfl (by exact ⟨_,Tryz.underlying42,rfl⟩) (by intro fs h;cases h)
theorem Ru:TyOk Tryz.prog 47 ty47:=aJ (i:=Tryz.t47) (by rw [Tryz.types_size];decide) Tryz.type47 rfl ⟨rfl,rfl,rfl,rfl⟩ rfl (by exact Tryz.underlying47) (by intro fs h;cases h)
theorem Rv:TyOk Tryz.prog 60 ty60:=aJ (i:=Tryz.t60) (by rw [Tryz.types_size];decide) Tryz.type60 rfl ⟨rfl,rfl,rfl,rfl⟩ rfl (by exact Tryz.underlying60) (by intro fs h;cases h)
theorem Rw:TyOk Tryz.prog 61 ty61:=aJ (i:=Tryz.t61) (by rw [Tryz.types_size];decide) Tryz.type61 rfl ⟨rfl,rfl,rfl,rfl⟩ rfl (by exact Tryz.underlying61) (by intro fs h;cases h)
theorem Rx:TyOk Tryz.prog 63 ty63:=aJ (i:=Tryz.t63) (by rw [Tryz.types_size];decide) Tryz.type63 rfl ⟨rfl,rfl,rfl,rfl⟩ rfl (by exact ⟨_,Tryz.underlying63,rfl⟩) (by intro fs h;cases h)
theorem Ry:TyOk Tryz.prog 64 ty64:=aJ (i:=Tryz.t64) (by rw [Tryz.types_size];decide) Tryz.type64 rfl ⟨rfl,rfl,rfl,rfl⟩ rfl (by exact ⟨_,Tryz.underlying64,rfl⟩) (by intro fs h;cases h)
theorem Rz:TyOk Tryz.prog 77 ty77:=aJ (i:=Tryz.t77) (by rw [Tryz.types_size];decide) Tryz.type77 rfl ⟨rfl,rfl,rfl,rfl⟩ rfl (by exact ⟨_,Tryz.underlying77,rfl⟩) (by intro fs h;cases h)
theorem RA:TyOk Tryz.prog 78 ty78:=aJ (i:=Tryz.t78) (by rw [Tryz.types_size];decide) Tryz.type78 rfl ⟨rfl,rfl,rfl,rfl⟩ rfl (by exact Tryz.underlying78) (by intro fs h;cases h)
theorem RB:TyOk Tryz.prog 80 ty80:=aJ (i:=Tryz.t80) (by rw [Tryz.types_size];decide) Tryz.type80 rfl ⟨rfl,rfl,rfl,rfl⟩ rfl (by exact ⟨_,Tryz.underlying80,rfl⟩) (by intro fs h;cases h)
theorem RC:TyOk Tryz.prog 90 ty90:=aJ (i:=Tryz.t90) (by rw [Tryz.types_size];decide) Tryz.type90 rfl ⟨rfl,rfl,rfl,rfl⟩ rfl (by exact ⟨_,Tryz.underlying90,rfl⟩) (by intro fs h;cases h)
theorem Oh:TyOk Tryz.prog 105 ty105:=aJ (i:=Tryz.t105) (by rw [Tryz.types_size];decide) Tryz.type105 rfl ⟨rfl,rfl,rfl,rfl⟩ rfl (by exact ⟨_,Tryz.underlying105,rfl⟩) (by intro fs h;cases h)
theorem Oi:TyOk Tryz.prog 107 ty107:=aJ (i:=Tryz.t107) (by rw [Tryz.types_size];decide) Tryz.type107 rfl ⟨rfl,rfl,rfl,rfl⟩ rfl (by exact Tryz.underlying107) (by intro fs h;cases h)
theorem Oj:TyOk Tryz.prog 109 ty109:=aJ (i:=Tryz.t109) (by rw [Tryz.types_size];decide) Tryz.type109 rfl ⟨rfl,rfl,rfl,rfl⟩ rfl (by exact ⟨_,Tryz.underlying109,rfl⟩) (by intro fs h;cases h)
theorem Ok:TyOk Tryz.prog 111 ty111:=aJ (i:=Tryz.t111) (by rw [Tryz.types_size];decide) Tryz.type111 rfl ⟨rfl,rfl,rfl,rfl⟩ rfl (by exact ⟨_,Tryz.underlying111,rfl⟩) (by intro fs h;cases h)
theorem Ol:TyOk Tryz.prog 117 ty117:=aJ (i:=Tryz.t117) (by rw [Tryz.types_size];decide) Tryz.type117 rfl ⟨rfl,rfl,rfl,rfl⟩ rfl (by exact ⟨_,Tryz.underlying117,rfl⟩) (by intro fs h;cases h)
theorem Om:TyOk Tryz.prog 122 ty122:=aJ (i:=Tryz.t122) (by rw [Tryz.types_size];decide) Tryz.type122 rfl ⟨rfl,rfl,rfl,rfl⟩ rfl (by exact ⟨_,Tryz.underlying122,rfl⟩) (by intro fs h;cases h)
theorem On:TyOk Tryz.prog 145 ty145:=aJ (i:=Tryz.t145) (by rw [Tryz.types_size];decide) Tryz.type145 rfl ⟨rfl,rfl,rfl,rfl⟩ rfl (by exact ⟨_,Tryz.underlying145,rfl⟩) (by intro fs h;cases h)
theorem Oo:TyOk Tryz.prog 147 ty147:=aJ (i:=Tryz.t147) (by rw [Tryz.types_size];decide) Tryz.type147 rfl ⟨rfl,rfl,rfl,rfl⟩ rfl (by exact ⟨_,Tryz.underlying147,rfl⟩) (by intro fs h;cases h)
theorem Oq:TyOk Tryz.prog 150 ty150:=aJ (i:=Tryz.t150) (by rw [Tryz.types_size];decide) Tryz.type150 rfl ⟨rfl,rfl,rfl,rfl⟩ rfl (by exact ⟨_,Tryz.underlying150,rfl⟩) (by intro fs h;cases h)
theorem Ot:TyOk Tryz.prog 153 ty153:=aJ (i:=Tryz.t153) (by rw [Tryz.types_size];decide) Tryz.type153 rfl ⟨rfl,rfl,rfl,rfl⟩ rfl (by exact ⟨_,Tryz.underlying153,rfl⟩) (by intro fs h;cases h;exact ⟨_,Tryz.underlying153,rfl,by decide,by kernel_rfl,by kernel_rfl⟩)
theorem Ou:TyOk Tryz.prog 168 ty168:=aJ (i:=Tryz.t168) (by rw [Tryz.types_size];decide) Tryz.type168 rfl ⟨rfl,rfl,rfl,rfl⟩ rfl (by exact ⟨_,Tryz.underlying168,rfl⟩) (by intro fs h;cases h)
theorem Ov:TyOk Tryz.prog 176 ty176:=aJ (i:=Tryz.t176) (by rw [Tryz.types_size];decide) Tryz.type176 rfl ⟨rfl,rfl,rfl,rfl⟩ rfl (by exact Tryz.underlying176) (by intro fs h;cases h)
theorem Ow:TyOk Tryz.prog 179 ty179:=aJ (i:=Tryz.t179) (by rw [Tryz.types_size];decide) Tryz.type179 rfl ⟨rfl,rfl,rfl,rfl⟩ rfl (by exact ⟨_,Tryz.underlying179,rfl⟩) (by intro fs h;cases h)
theorem Ox:TyOk Tryz.prog 184 ty184:=aJ (i:=Tryz.t184) (by rw [Tryz.types_size];decide) Tryz.type184 rfl ⟨rfl,rfl,rfl,rfl⟩ rfl (by exact ⟨_,Tryz.underlying184,rfl⟩) (by intro fs h;cases h)
theorem Oy:TyOk Tryz.prog 187 ty187:=aJ (i:=Tryz.t187) (by rw [Tryz.types_size];decide) Tryz.type187 rfl ⟨rfl,rfl,rfl,rfl⟩ rfl (by exact ⟨_,Tryz.underlying187,rfl⟩) (by intro fs h;cases h;exact ⟨_,Tryz.underlying187,rfl,by decide,by kernel_rfl,by kernel_rfl⟩)
theorem Oz:TyOk Tryz.prog 191 ty191:=aJ (i:=Tryz.t191) (by rw [Tryz.types_size];decide) Tryz.type191 rfl ⟨rfl,rfl,rfl,rfl⟩ rfl (by exact ⟨_,Tryz.underlying191,rfl⟩) (by intro fs h;cases h)
theorem OA:TyOk Tryz.prog 196 ty196:=aJ (i:=Tryz.t196) (by rw [Tryz.types_size];decide) Tryz.type196 rfl ⟨rfl,rfl,rfl,rfl⟩ rfl (by exact ⟨_,Tryz.underlying196,rfl⟩) (by intro fs h;cases h)
theorem OB:TyOk Tryz.prog 209 ty209:=aJ (i:=Tryz.t209) (by rw [Tryz.types_size];decide) Tryz.type209 rfl ⟨rfl,rfl,rfl,rfl⟩ rfl (by exact Tryz.underlying209) (by intro fs h;cases h)
theorem OC:TyOk Tryz.prog 211 ty211:=aJ (i:=Tryz.t211) (by rw [Tryz.types_size];decide) Tryz.type211 rfl ⟨rfl,rfl,rfl,rfl⟩ rfl (by exact Tryz.underlying211) (by intro fs h;cases h)
theorem OD:TyOk Tryz.prog 214 ty214:=aJ (i:=Tryz.t214) (by rw [Tryz.types_size];decide) Tryz.type214 rfl ⟨rfl,rfl,rfl,rfl⟩ rfl (by exact Tryz.underlying214) (by intro fs h;cases h)
theorem OE:TyOk Tryz.prog 219 ty219:=aJ (i:=Tryz.t219) (by rw [Tryz.types_size];decide) Tryz.type219 rfl ⟨rfl,rfl,rfl,rfl⟩ rfl (by exact Tryz.underlying219) (by intro fs h;cases h)
theorem OF:TyOk Tryz.prog 237 ty237:=aJ (i:=Tryz.t237) (by rw [Tryz.types_size];decide) Tryz.type237 rfl ⟨rfl,rfl,rfl,rfl⟩ rfl (by exact Tryz.underlying237) (by intro fs h;cases h)
theorem RD {l:List Ty}(r:bQ Tryz.prog 16 l):bQ Tryz.prog 0 (unkTy :: ty1 :: ty2 :: ty3 :: ty4 :: ty5 :: ty6 :: unkTy :: ty8 :: ty9 :: unkTy :: unkTy :: unkTy :: unkTy :: unkTy :: unkTy :: l):=
 .cons (al _ _) (.cons SI (.cons SJ (.cons SK (.cons SL (.cons SM (.cons SN (.cons (al _ _) (.cons SO (.cons SP (.cons (al _ _) (.cons (al _ _) (.cons (al _ _) (.cons (al _ _) (.cons (al _ _) (.cons (al _ _) (r))))))))))))))))
theorem OG {l:List Ty}(r:bQ Tryz.prog 32 l):bQ Tryz.prog 16 (unkTy :: unkTy :: unkTy :: unkTy :: ty20 :: unkTy :: ty22 :: ty23 :: ty24 :: unkTy :: ty26 :: unkTy :: ty28 :: unkTy :: ty30 :: ty31 :: l):=
 .cons (al _ _) (.cons (al _ _) (.cons (al _ _) (.cons (al _ _) (.cons Rj (.cons (al _ _) (.cons Rk (.cons Rl (.cons Rm (.cons (al _ _) (.cons Rn (.cons (al _ _) (.cons Ro (.cons (al _ _) (.cons Rp (.cons Rq (r))))))))))))))))
theorem OH {l:List Ty}(r:bQ Tryz.prog 48 l):bQ Tryz.prog 32 (unkTy :: ty33 :: unkTy :: unkTy :: unkTy :: ty37 :: unkTy :: unkTy :: unkTy :: unkTy :: ty42 :: unkTy :: unkTy :: unkTy :: unkTy :: ty47 :: l):=
 .cons (al _ _) (.cons Rr (.cons (al _ _) (.cons (al _ _) (.cons (al _ _) (.cons Rs (.cons (al _ _) (.cons (al _ _) (.cons (al _ _) (.cons (al _ _) (.cons Rt (.cons (al _ _) (.cons (al _ _) (.cons (al _ _) (.cons (al _ _) (.cons Ru (r))))))))))))))))
theorem OI {l:List Ty}(r:bQ Tryz.prog 64 l):bQ Tryz.prog 48 (unkTy :: unkTy :: unkTy :: unkTy :: unkTy :: unkTy :: unkTy :: unkTy :: unkTy :: unkTy :: unkTy :: unkTy :: ty60 :: ty61 :: unkTy :: ty63 :: l):=
 .cons (al _ _) (.cons (al _ _) (.cons (al _ _) (.cons (al _ _) (.cons (al _ _) (.cons (al _ _) (.cons (al _ _) (.cons (al _ _) (.cons (al _ _) (.cons (al _ _) (.cons (al _ _) (.cons (al _ _) (.cons Rv (.cons Rw (.cons (al _ _) (.cons Rx (r))))))))))))))))
theorem OJ {l:List Ty}(r:bQ Tryz.prog 80 l):bQ Tryz.prog 64 (ty64 :: unkTy :: unkTy :: unkTy :: unkTy :: unkTy :: unkTy :: unkTy :: unkTy :: unkTy :: unkTy :: unkTy :: unkTy :: ty77 :: ty78 :: unkTy :: l):=
 .cons Ry (.cons (al _ _) (.cons (al _ _) (.cons (al _ _) (.cons (al _ _) (.cons (al _ _) (.cons (al _ _) (.cons (al _ _) (.cons (al _ _) (.cons (al _ _) (.cons (al _ _) (.cons (al _ _) (.cons (al _ _) (.cons Rz (.cons RA (.cons (al _ _) (r))))))))))))))))
theorem OK {l:List Ty}(r:bQ Tryz.prog 96 l):bQ Tryz.prog 80 (ty80 :: unkTy :: unkTy :: unkTy :: unkTy :: unkTy :: unkTy :: unkTy :: unkTy :: unkTy :: ty90 :: unkTy :: unkTy :: unkTy :: unkTy :: unkTy :: l):=
 .cons RB (.cons (al _ _) (.cons (al _ _) (.cons (al _ _) (.cons (al _ _) (.cons (al _ _) (.cons (al _ _) (.cons (al _ _) (.cons (al _ _) (.cons (al _ _) (.cons RC (.cons (al _ _) (.cons (al _ _) (.cons (al _ _) (.cons (al _ _) (.cons (al _ _) (r))))))))))))))))
theorem OL {l:List Ty}(r:bQ Tryz.prog 112 l):bQ Tryz.prog 96 (unkTy :: unkTy :: unkTy :: unkTy :: unkTy :: unkTy :: unkTy :: unkTy :: unkTy :: ty105 :: unkTy :: ty107 :: unkTy :: ty109 :: unkTy :: ty111 :: l):=
 .cons (al _ _) (.cons (al _ _) (.cons (al _ _) (.cons (al _ _) (.cons (al _ _) (.cons (al _ _) (.cons (al _ _) (.cons (al _ _) (.cons (al _ _) (.cons Oh (.cons (al _ _) (.cons Oi (.cons (al _ _) (.cons Oj (.cons (al _ _) (.cons Ok (r))))))))))))))))
theorem MP {l:List Ty}(r:bQ Tryz.prog 128 l):bQ Tryz.prog 112 (unkTy :: unkTy :: unkTy :: unkTy :: unkTy :: ty117 :: unkTy :: unkTy :: unkTy :: unkTy :: ty122 :: unkTy :: unkTy :: unkTy :: unkTy :: unkTy :: l):=
 .cons (al _ _) (.cons (al _ _) (.cons (al _ _) (.cons (al _ _) (.cons (al _ _) (.cons Ol (.cons (al _ _) (.cons (al _ _) (.cons (al _ _) (.cons (al _ _) (.cons Om (.cons (al _ _) (.cons (al _ _) (.cons (al _ _) (.cons (al _ _) (.cons (al _ _) (r))))))))))))))))
theorem MQ {l:List Ty}(r:bQ Tryz.prog 144 l):bQ Tryz.prog 128 (unkTy :: unkTy :: unkTy :: unkTy :: unkTy :: unkTy :: unkTy :: unkTy :: unkTy :: unkTy :: unkTy :: unkTy :: unkTy :: unkTy :: unkTy :: unkTy :: l):=
 .cons (al _ _) (.cons (al _ _) (.cons (al _ _) (.cons (al _ _) (.cons (al _ _) (.cons (al _ _) (.cons (al _ _) (.cons (al _ _) (.cons (al _ _) (.cons (al _ _) (.cons (al _ _) (.cons (al _ _) (.cons (al _ _) (.cons (al _ _) (.cons (al _ _) (.cons (al _ _) (r))))))))))))))))
theorem MR {l:List Ty}(r:bQ Tryz.prog 160 l):bQ Tryz.prog 144 (unkTy :: ty145 :: unkTy :: ty147 :: unkTy :: unkTy :: ty150 :: unkTy :: unkTy :: ty153 :: unkTy :: unkTy :: unkTy :: unkTy :: unkTy :: unkTy :: l):=
 .cons (al _ _) (.cons On (.cons (al _ _) (.cons Oo (.cons (al _ _) (.cons (al _ _) (.cons Oq (.cons (al _ _) (.cons (al _ _) (.cons Ot (.cons (al _ _) (.cons (al _ _) (.cons (al _ _) (.cons (al _ _) (.cons (al _ _) (.cons (al _ _) (r))))))))))))))))
theorem MS {l:List Ty}(r:bQ Tryz.prog 176 l):bQ Tryz.prog 160 (unkTy :: unkTy :: unkTy :: unkTy :: unkTy :: unkTy :: unkTy :: unkTy :: ty168 :: unkTy :: unkTy :: unkTy :: unkTy :: unkTy :: unkTy :: unkTy :: l):=
 .cons (al _ _) (.cons (al _ _) (.cons (al _ _) (.cons (al _ _) (.cons (al _ _) (.cons (al _ _) (.cons (al _ _) (.cons (al _ _) (.cons Ou (.cons (al _ _) (.cons (al _ _) (.cons (al _ _) (.cons (al _ _) (.cons (al _ _) (.cons (al _ _) (.cons (al _ _) (r))))))))))))))))
theorem MT {l:List Ty}(r:bQ Tryz.prog 192 l):bQ Tryz.prog 176 (ty176 :: unkTy :: unkTy :: ty179 :: unkTy :: unkTy :: unkTy :: unkTy :: ty184 :: unkTy :: unkTy :: ty187 :: unkTy :: unkTy :: unkTy :: ty191 :: l):=
 .cons Ov (.cons (al _ _) (.cons (al _ _) (.cons Ow (.cons (al _ _) (.cons (al _ _) (.cons (al _ _) (.cons (al _ _) (.cons Ox (.cons (al _ _) (.cons (al _ _) (.cons Oy (.cons (al _ _) (.cons (al _ _) (.cons (al _ _) (.cons Oz (r))))))))))))))))
theorem MU {l:List Ty}(r:bQ Tryz.prog 208 l):bQ Tryz.prog 192 (unkTy :: unkTy :: unkTy :: unkTy :: ty196 :: unkTy :: unkTy :: unkTy :: unkTy :: unkTy :: unkTy :: unkTy :: unkTy :: unkTy :: unkTy :: unkTy :: l):=
 .cons (al _ _) (.cons (al _ _) (.cons (al _ _) (.cons (al _ _) (.cons OA (.cons (al _ _) (.cons (al _ _) (.cons (al _ _) (.cons (al _ _) (.cons (al _ _) (.cons (al _ _) (.cons (al _ _) (.cons (al _ _) (.cons (al _ _) (.cons (al _ _) (.cons (al _ _) (r))))))))))))))))
theorem MV {l:List Ty}(r:bQ Tryz.prog 224 l):bQ Tryz.prog 208 (unkTy :: ty209 :: unkTy :: ty211 :: unkTy :: unkTy :: ty214 :: unkTy :: unkTy :: unkTy :: unkTy :: ty219 :: unkTy :: unkTy :: unkTy :: unkTy :: l):=
 .cons (al _ _) (.cons OB (.cons (al _ _) (.cons OC (.cons (al _ _) (.cons (al _ _) (.cons OD (.cons (al _ _) (.cons (al _ _) (.cons (al _ _) (.cons (al _ _) (.cons OE (.cons (al _ _) (.cons (al _ _) (.cons (al _ _) (.cons (al _ _) (r))))))))))))))))
theorem MW {l:List Ty}(r:bQ Tryz.prog 238 l):bQ Tryz.prog 224 (unkTy :: unkTy :: unkTy :: unkTy :: unkTy :: unkTy :: unkTy :: unkTy :: unkTy :: unkTy :: unkTy :: unkTy :: unkTy :: ty237 :: l):=
 .cons (al _ _) (.cons (al _ _) (.cons (al _ _) (.cons (al _ _) (.cons (al _ _) (.cons (al _ _) (.cons (al _ _) (.cons (al _ _) (.cons (al _ _) (.cons (al _ _) (.cons (al _ _) (.cons (al _ _) (.cons (al _ _) (.cons OF (r))))))))))))))
theorem hT (t:Nat):TyOk Tryz.prog t (T t):=by
 have h:bQ Tryz.prog 0 tys:=RD (OG (OH (OI (OJ (OK (OL (MP (MQ (MR (MS (MT (MU (MV (MW (.nil _)))))))))))))))
 have:=h.get t
 rw [Nat.zero_add] at this
 exact this
section
open TK
@[simp,go_sem] theorem Tk1:(T 1).kind=.other:=rfl
@[simp,go_sem] theorem Ts1:(T 1).size=1:=rfl
@[simp,go_sem] theorem Tb1:(T 1).bytes=8:=rfl
@[simp,go_sem] theorem Tz1:(T 1).zero=[Go.Value.nilFunc]:=rfl
@[simp,go_sem] theorem Tk2:(T 2).kind=.int .i64:=rfl
@[simp,go_sem] theorem Ts2:(T 2).size=1:=rfl
@[simp,go_sem] theorem Tb2:(T 2).bytes=8:=rfl
@[simp,go_sem] theorem Tz2:(T 2).zero=[Go.Value.int Go.IntKind.i64 0]:=rfl
@[simp,go_sem] theorem Tk3:(T 3).kind=.int .i64:=rfl
@[simp,go_sem] theorem Ts3:(T 3).size=1:=rfl
@[simp,go_sem] theorem Tb3:(T 3).bytes=8:=rfl
@[simp,go_sem] theorem Tz3:(T 3).zero=[Go.Value.int Go.IntKind.i64 0]:=rfl
@[simp,go_sem] theorem Tk4:(T 4).kind=.bool:=rfl
@[simp,go_sem] theorem Ts4:(T 4).size=1:=rfl
@[simp,go_sem] theorem Tb4:(T 4).bytes=1:=rfl
@[simp,go_sem] theorem Tz4:(T 4).zero=[Go.Value.bool false]:=rfl
@[simp,go_sem] theorem Tk5:(T 5).kind=.int .u8:=rfl
@[simp,go_sem] theorem Ts5:(T 5).size=1:=rfl
@[simp,go_sem] theorem Tb5:(T 5).bytes=1:=rfl
@[simp,go_sem] theorem Tz5:(T 5).zero=[Go.Value.int Go.IntKind.u8 0]:=rfl
@[simp,go_sem] theorem Tk6:(T 6).kind=.int .u8:=rfl
@[simp,go_sem] theorem Ts6:(T 6).size=1:=rfl
@[simp,go_sem] theorem Tb6:(T 6).bytes=1:=rfl
@[simp,go_sem] theorem Tz6:(T 6).zero=[Go.Value.int Go.IntKind.u8 0]:=rfl
@[simp,go_sem] theorem Tk8:(T 8).kind=.struct [(0,2),(1,3),(2,4),(3,6)]:=rfl
@[simp,go_sem] theorem Ts8:(T 8).size=4:=rfl
@[simp,go_sem] theorem Tb8:(T 8).bytes=24:=rfl
@[simp,go_sem] theorem Tz8:(T 8).zero=[Go.Value.int Go.IntKind.i64 0,Go.Value.int Go.IntKind.i64 0,Go.Value.bool false,Go.Value.int Go.IntKind.u8 0]:=rfl
@[simp,go_sem] theorem Tk9:(T 9).kind=.str:=rfl
@[simp,go_sem] theorem Ts9:(T 9).size=1:=rfl
@[simp,go_sem] theorem Tb9:(T 9).bytes=16:=rfl
@[simp,go_sem] theorem Tz9:(T 9).zero=[Go.Value.string { data:=#[] }]:=rfl
@[simp,go_sem] theorem Tk20:(T 20).kind=.other:=rfl
@[simp,go_sem] theorem Ts20:(T 20).size=1:=rfl
@[simp,go_sem] theorem Tb20:(T 20).bytes=16:=rfl
@[simp,go_sem] theorem Tz20:(T 20).zero=[Go.Value.nilIface]:=rfl
@[simp,go_sem] theorem Tk22:(T 22).kind=.slice 5:=rfl
@[simp,go_sem] theorem Ts22:(T 22).size=1:=rfl
@[simp,go_sem] theorem Tb22:(T 22).bytes=24:=rfl
@[simp,go_sem] theorem Tz22:(T 22).zero=[Go.Value.slice none 0 0]:=rfl
@[simp,go_sem] theorem Tk23:(T 23).kind=.slice 147:=rfl
@[simp,go_sem] theorem Ts23:(T 23).size=1:=rfl
@[simp,go_sem] theorem Tb23:(T 23).bytes=24:=rfl
@[simp,go_sem] theorem Tz23:(T 23).zero=[Go.Value.slice none 0 0]:=rfl
@[simp,go_sem] theorem Tk24:(T 24).kind=.slice 153:=rfl
@[simp,go_sem] theorem Ts24:(T 24).size=1:=rfl
@[simp,go_sem] theorem Tb24:(T 24).bytes=24:=rfl
@[simp,go_sem] theorem Tz24:(T 24).zero=[Go.Value.slice none 0 0]:=rfl
@[simp,go_sem] theorem Tk26:(T 26).kind=.struct [(0,23),(1,24),(2,3)]:=rfl
@[simp,go_sem] theorem Ts26:(T 26).size=3:=rfl
@[simp,go_sem] theorem Tb26:(T 26).bytes=56:=rfl
@[simp,go_sem] theorem Tz26:(T 26).zero=[Go.Value.slice none 0 0,Go.Value.slice none 0 0,Go.Value.int Go.IntKind.i64 0]:=rfl
@[simp,go_sem] theorem Tk28:(T 28).kind=.slice 3:=rfl
@[simp,go_sem] theorem Ts28:(T 28).size=1:=rfl
@[simp,go_sem] theorem Tb28:(T 28).bytes=24:=rfl
@[simp,go_sem] theorem Tz28:(T 28).zero=[Go.Value.slice none 0 0]:=rfl
@[simp,go_sem] theorem Tk30:(T 30).kind=.struct [(0,3),(1,28),(2,28)]:=rfl
@[simp,go_sem] theorem Ts30:(T 30).size=3:=rfl
@[simp,go_sem] theorem Tb30:(T 30).bytes=56:=rfl
@[simp,go_sem] theorem Tz30:(T 30).zero=[Go.Value.int Go.IntKind.i64 0,Go.Value.slice none 0 0,Go.Value.slice none 0 0]:=rfl
@[simp,go_sem] theorem Tk31:(T 31).kind=.slice 42:=rfl
@[simp,go_sem] theorem Ts31:(T 31).size=1:=rfl
@[simp,go_sem] theorem Tb31:(T 31).bytes=24:=rfl
@[simp,go_sem] theorem Tz31:(T 31).zero=[Go.Value.slice none 0 0]:=rfl
@[simp,go_sem] theorem Tk33:(T 33).kind=.struct [(0,26),(3,30),(6,4),(7,31)]:=rfl
@[simp,go_sem] theorem Ts33:(T 33).size=8:=rfl
@[simp,go_sem] theorem Tb33:(T 33).bytes=144:=rfl
@[simp,go_sem] theorem Tz33:(T 33).zero=[Go.Value.slice none 0 0,Go.Value.slice none 0 0,Go.Value.int Go.IntKind.i64 0,Go.Value.int Go.IntKind.i64 0,Go.Value.slice none 0 0,Go.Value.slice none 0 0,Go.Value.bool false,Go.Value.slice none 0 0]:=rfl
@[simp,go_sem] theorem Tk37:(T 37).kind=.struct [(0,28),(1,28)]:=rfl
@[simp,go_sem] theorem Ts37:(T 37).size=2:=rfl
@[simp,go_sem] theorem Tb37:(T 37).bytes=48:=rfl
@[simp,go_sem] theorem Tz37:(T 37).zero=[Go.Value.slice none 0 0,Go.Value.slice none 0 0]:=rfl
@[simp,go_sem] theorem Tk42:(T 42).kind=.struct [(0,3),(1,28),(2,28),(3,28)]:=rfl
@[simp,go_sem] theorem Ts42:(T 42).size=4:=rfl
@[simp,go_sem] theorem Tb42:(T 42).bytes=80:=rfl
@[simp,go_sem] theorem Tz42:(T 42).zero=[Go.Value.int Go.IntKind.i64 0,Go.Value.slice none 0 0,Go.Value.slice none 0 0,Go.Value.slice none 0 0]:=rfl
@[simp,go_sem] theorem Tk47:(T 47).kind=.slice 28:=rfl
@[simp,go_sem] theorem Ts47:(T 47).size=1:=rfl
@[simp,go_sem] theorem Tb47:(T 47).bytes=24:=rfl
@[simp,go_sem] theorem Tz47:(T 47).zero=[Go.Value.slice none 0 0]:=rfl
@[simp,go_sem] theorem Tk60:(T 60).kind=.slice 184:=rfl
@[simp,go_sem] theorem Ts60:(T 60).size=1:=rfl
@[simp,go_sem] theorem Tb60:(T 60).bytes=24:=rfl
@[simp,go_sem] theorem Tz60:(T 60).zero=[Go.Value.slice none 0 0]:=rfl
@[simp,go_sem] theorem Tk61:(T 61).kind=.slice 187:=rfl
@[simp,go_sem] theorem Ts61:(T 61).size=1:=rfl
@[simp,go_sem] theorem Tb61:(T 61).bytes=24:=rfl
@[simp,go_sem] theorem Tz61:(T 61).zero=[Go.Value.slice none 0 0]:=rfl
@[simp,go_sem] theorem Tk63:(T 63).kind=.struct [(0,60),(1,61),(2,3)]:=rfl
@[simp,go_sem] theorem Ts63:(T 63).size=3:=rfl
@[simp,go_sem] theorem Tb63:(T 63).bytes=56:=rfl
@[simp,go_sem] theorem Tz63:(T 63).zero=[Go.Value.slice none 0 0,Go.Value.slice none 0 0,Go.Value.int Go.IntKind.i64 0]:=rfl
@[simp,go_sem] theorem Tk64:(T 64).kind=.struct [(0,28),(1,28)]:=rfl
@[simp,go_sem] theorem Ts64:(T 64).size=2:=rfl
@[simp,go_sem] theorem Tb64:(T 64).bytes=48:=rfl
@[simp,go_sem] theorem Tz64:(T 64).zero=[Go.Value.slice none 0 0,Go.Value.slice none 0 0]:=rfl
@[simp,go_sem] theorem Tk77:(T 77).kind=.struct [(0,3),(1,28),(2,28)]:=rfl
@[simp,go_sem] theorem Ts77:(T 77).size=3:=rfl
@[simp,go_sem] theorem Tb77:(T 77).bytes=56:=rfl
@[simp,go_sem] theorem Tz77:(T 77).zero=[Go.Value.int Go.IntKind.i64 0,Go.Value.slice none 0 0,Go.Value.slice none 0 0]:=rfl
@[simp,go_sem] theorem Tk78:(T 78).kind=.slice 191:=rfl
@[simp,go_sem] theorem Ts78:(T 78).size=1:=rfl
@[simp,go_sem] theorem Tb78:(T 78).bytes=24:=rfl
@[simp,go_sem] theorem Tz78:(T 78).zero=[Go.Value.slice none 0 0]:=rfl
@[simp,go_sem] theorem Tk80:(T 80).kind=.struct [(0,63),(3,77),(6,4),(7,78)]:=rfl
@[simp,go_sem] theorem Ts80:(T 80).size=8:=rfl
@[simp,go_sem] theorem Tb80:(T 80).bytes=144:=rfl
@[simp,go_sem] theorem Tz80:(T 80).zero=[Go.Value.slice none 0 0,Go.Value.slice none 0 0,Go.Value.int Go.IntKind.i64 0,Go.Value.int Go.IntKind.i64 0,Go.Value.slice none 0 0,Go.Value.slice none 0 0,Go.Value.bool false,Go.Value.slice none 0 0]:=rfl
@[simp,go_sem] theorem Tk90:(T 90).kind=.other:=rfl
@[simp,go_sem] theorem Ts90:(T 90).size=1:=rfl
@[simp,go_sem] theorem Tb90:(T 90).bytes=8:=rfl
@[simp,go_sem] theorem Tz90:(T 90).zero=[Go.Value.pointer none]:=rfl
@[simp,go_sem] theorem Yn:(T 105).kind=.other:=rfl
@[simp,go_sem] theorem Yo:(T 105).size=1:=rfl
@[simp,go_sem] theorem Yp:(T 105).bytes=8:=rfl
@[simp,go_sem] theorem Yq:(T 105).zero=[Go.Value.pointer none]:=rfl
@[simp,go_sem] theorem Yr:(T 107).kind=.map 9 4:=rfl
@[simp,go_sem] theorem Ys:(T 107).size=1:=rfl
@[simp,go_sem] theorem Yt:(T 107).bytes=8:=rfl
@[simp,go_sem] theorem Yu:(T 107).zero=[Go.Value.map none]:=rfl
@[simp,go_sem] theorem Yv:(T 109).kind=.struct [(0,26),(3,107)]:=rfl
@[simp,go_sem] theorem Yw:(T 109).size=4:=rfl
@[simp,go_sem] theorem Yx:(T 109).bytes=64:=rfl
@[simp,go_sem] theorem Yy:(T 109).zero=[Go.Value.slice none 0 0,Go.Value.slice none 0 0,Go.Value.int Go.IntKind.i64 0,Go.Value.map none]:=rfl
@[simp,go_sem] theorem Yz:(T 111).kind=.other:=rfl
@[simp,go_sem] theorem YA:(T 111).size=1:=rfl
@[simp,go_sem] theorem YB:(T 111).bytes=8:=rfl
@[simp,go_sem] theorem YC:(T 111).zero=[Go.Value.nilFunc]:=rfl
@[simp,go_sem] theorem YD:(T 117).kind=.other:=rfl
@[simp,go_sem] theorem YE:(T 117).size=1:=rfl
@[simp,go_sem] theorem YF:(T 117).bytes=8:=rfl
@[simp,go_sem] theorem YG:(T 117).zero=[Go.Value.nilFunc]:=rfl
@[simp,go_sem] theorem YH:(T 122).kind=.other:=rfl
@[simp,go_sem] theorem YI:(T 122).size=1:=rfl
@[simp,go_sem] theorem YJ:(T 122).bytes=8:=rfl
@[simp,go_sem] theorem YK:(T 122).zero=[Go.Value.nilFunc]:=rfl
@[simp,go_sem] theorem YL:(T 145).kind=.struct [(0,22),(1,3),(2,3)]:=rfl
@[simp,go_sem] theorem YM:(T 145).size=3:=rfl
@[simp,go_sem] theorem YN:(T 145).bytes=40:=rfl
@[simp,go_sem] theorem YO:(T 145).zero=[Go.Value.slice none 0 0,Go.Value.int Go.IntKind.i64 0,Go.Value.int Go.IntKind.i64 0]:=rfl
@[simp,go_sem] theorem YP:(T 147).kind=.struct [(0,9),(1,28),(2,3)]:=rfl
@[simp,go_sem] theorem YQ:(T 147).size=3:=rfl
@[simp,go_sem] theorem YR:(T 147).bytes=48:=rfl
@[simp,go_sem] theorem YS:(T 147).zero=[Go.Value.string { data:=#[] },Go.Value.slice none 0 0,Go.Value.int Go.IntKind.i64 0]:=rfl
@[simp,go_sem] theorem YT:(T 150).kind=.other:=rfl
@[simp,go_sem] theorem YU:(T 150).size=1:=rfl
@[simp,go_sem] theorem YV:(T 150).bytes=8:=rfl
@[simp,go_sem] theorem YW:(T 150).zero=[Go.Value.nilFunc]:=rfl
@[simp,go_sem] theorem YX:(T 153).kind=.struct [(0,3),(1,3),(2,3),(3,3),(4,4)]:=rfl
@[simp,go_sem] theorem YY:(T 153).size=5:=rfl
@[simp,go_sem] theorem YZ:(T 153).bytes=40:=rfl
@[simp,go_sem] theorem Za:(T 153).zero=[Go.Value.int Go.IntKind.i64 0,Go.Value.int Go.IntKind.i64 0,Go.Value.int Go.IntKind.i64 0,Go.Value.int Go.IntKind.i64 0,Go.Value.bool false]:=rfl
@[simp,go_sem] theorem Zb:(T 153).eqs=some [(0,3),(1,3),(2,3),(3,3),(4,4)]:=rfl
@[simp,go_sem] theorem Zc:(T 168).kind=.other:=rfl
@[simp,go_sem] theorem Zd:(T 168).size=1:=rfl
@[simp,go_sem] theorem Ze:(T 168).bytes=8:=rfl
@[simp,go_sem] theorem Zf:(T 168).zero=[Go.Value.nilFunc]:=rfl
@[simp,go_sem] theorem Zg:(T 176).kind=.int .u64:=rfl
@[simp,go_sem] theorem Zh:(T 176).size=1:=rfl
@[simp,go_sem] theorem Zi:(T 176).bytes=8:=rfl
@[simp,go_sem] theorem Zj:(T 176).zero=[Go.Value.int Go.IntKind.u64 0]:=rfl
@[simp,go_sem] theorem Zk:(T 179).kind=.other:=rfl
@[simp,go_sem] theorem Zl:(T 179).size=1:=rfl
@[simp,go_sem] theorem Zm:(T 179).bytes=8:=rfl
@[simp,go_sem] theorem Zn:(T 179).zero=[Go.Value.nilFunc]:=rfl
@[simp,go_sem] theorem Zo:(T 184).kind=.struct [(0,9),(1,28),(2,3)]:=rfl
@[simp,go_sem] theorem Zp:(T 184).size=3:=rfl
@[simp,go_sem] theorem Zq:(T 184).bytes=48:=rfl
@[simp,go_sem] theorem Zr:(T 184).zero=[Go.Value.string { data:=#[] },Go.Value.slice none 0 0,Go.Value.int Go.IntKind.i64 0]:=rfl
@[simp,go_sem] theorem Zs:(T 187).kind=.struct [(0,3),(1,3),(2,3),(3,3),(4,4)]:=rfl
@[simp,go_sem] theorem Zt:(T 187).size=5:=rfl
@[simp,go_sem] theorem Zu:(T 187).bytes=40:=rfl
@[simp,go_sem] theorem Zv:(T 187).zero=[Go.Value.int Go.IntKind.i64 0,Go.Value.int Go.IntKind.i64 0,Go.Value.int Go.IntKind.i64 0,Go.Value.int Go.IntKind.i64 0,Go.Value.bool false]:=rfl
@[simp,go_sem] theorem Zw:(T 187).eqs=some [(0,3),(1,3),(2,3),(3,3),(4,4)]:=rfl
@[simp,go_sem] theorem Zx:(T 191).kind=.struct [(0,3),(1,28),(2,28),(3,28)]:=rfl
@[simp,go_sem] theorem Zy:(T 191).size=4:=rfl
@[simp,go_sem] theorem Zz:(T 191).bytes=80:=rfl
@[simp,go_sem] theorem ZA:(T 191).zero=[Go.Value.int Go.IntKind.i64 0,Go.Value.slice none 0 0,Go.Value.slice none 0 0,Go.Value.slice none 0 0]:=rfl
@[simp,go_sem] theorem ZB:(T 196).kind=.other:=rfl
@[simp,go_sem] theorem ZC:(T 196).size=1:=rfl
@[simp,go_sem] theorem ZD:(T 196).bytes=8:=rfl
@[simp,go_sem] theorem ZE:(T 196).zero=[Go.Value.nilFunc]:=rfl
@[simp,go_sem] theorem ZF:(T 209).kind=.slice 9:=rfl
@[simp,go_sem] theorem ZG:(T 209).size=1:=rfl
@[simp,go_sem] theorem ZH:(T 209).bytes=24:=rfl
@[simp,go_sem] theorem ZI:(T 209).zero=[Go.Value.slice none 0 0]:=rfl
@[simp,go_sem] theorem ZJ:(T 211).kind=.int .u32:=rfl
@[simp,go_sem] theorem ZK:(T 211).size=1:=rfl
@[simp,go_sem] theorem ZL:(T 211).bytes=4:=rfl
@[simp,go_sem] theorem ZM:(T 211).zero=[Go.Value.int Go.IntKind.u32 0]:=rfl
@[simp,go_sem] theorem ZN:(T 214).kind=.int .u64:=rfl
@[simp,go_sem] theorem ZO:(T 214).size=1:=rfl
@[simp,go_sem] theorem ZP:(T 214).bytes=8:=rfl
@[simp,go_sem] theorem ZQ:(T 214).zero=[Go.Value.int Go.IntKind.u64 0]:=rfl
@[simp,go_sem] theorem ZR:(T 219).kind=.int .i64:=rfl
@[simp,go_sem] theorem ZS:(T 219).size=1:=rfl
@[simp,go_sem] theorem ZT:(T 219).bytes=8:=rfl
@[simp,go_sem] theorem ZU:(T 219).zero=[Go.Value.int Go.IntKind.i64 0]:=rfl
@[simp,go_sem] theorem ZV:(T 237).kind=.slice 4:=rfl
@[simp,go_sem] theorem ZW:(T 237).size=1:=rfl
@[simp,go_sem] theorem ZX:(T 237).bytes=24:=rfl
@[simp,go_sem] theorem ZY:(T 237).zero=[Go.Value.slice none 0 0]:=rfl
end
end Go.Proofs.YtghfphjfkdbpjaaGreatY
