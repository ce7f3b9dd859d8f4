import Derived.Test.YtgmaamnofhmecaaGreatDoorV08
namespace Go.Proofs.YtgmaamnofhmecaaGreatDoor
open Go.RowKit
theorem zEN:∀(l:List UInt8),Op.bytesLess l l=false
 | []=>rfl
 | a::x=>by simp[Op.bytesLess,zEN x]
theorem zEL:∀(a b c:List UInt8),Op.bytesLess a b=true→Op.bytesLess b c=true→Op.bytesLess a c=true
 | _,[],_,h,_=>by simp[Op.bytesLess]at h
 | _,_::_,[],_,h=>by simp[Op.bytesLess]at h
 | [],_::_,_::_,_,_=>rfl
 | a::x,b::y,c::z,h1,h2=>by
   simp only[Op.bytesLess,Bool.or_eq_true,Bool.and_eq_true,decide_eq_true_iff,beq_iff_eq]at h1 h2 ⊢;rcases h1 with h1 | ⟨rfl,h1⟩
   · rcases h2 with h2 | ⟨rfl,h2⟩
     · exact .inl (UInt8.lt_trans h1 h2)
     · exact .inl h1
   · rcases h2 with h2 | ⟨rfl,h2⟩
     · exact .inl h2
     · exact .inr ⟨rfl,zEL x y z h1 h2⟩
theorem zEM:∀(a b:List UInt8),Op.bytesLess a b=false→Op.bytesLess b a=false→a=b
 | [],[],_,_=>rfl
 | [],_::_,h,_=>by simp[Op.bytesLess]at h
 | _::_,[],_,h=>by simp[Op.bytesLess]at h
 | a::x,b::y,h1,h2=>by simp only[Op.bytesLess,Bool.or_eq_false_iff,Bool.and_eq_false_iff,decide_eq_false_iff_not,beq_eq_false_iff_ne]at h1 h2;have e:a=b:=UInt8.le_antisymm (UInt8.not_lt.1 h2.1) (UInt8.not_lt.1 h1.1);subst e;have r1:=h1.2.resolve_left (fun h=>h rfl);have r2:=h2.2.resolve_left (fun h=>h rfl);rw[zEM x y r1 r2]
theorem zFI {a b:ByteArray} (ha:zC0 a=true) (hb:zC0 b=true) (h:yN a.data.toList=yN b.data.toList):a=b:=by
 unfold zC0 at ha hb;rw[decide_eq_true_iff]at ha hb;apply uP;rw[yD,yD,←ha,←hb,h]
theorem zGe (a b:ByteArray):decide (zBR a b<0)=zK0 a b:=by
 unfold zBR zK0;cases ha:zC0 a <;> cases hb:zC0 b
 · simp only[Bool.false_and,if_neg (show ¬(false=true) by decide),bne_self_eq_false];unfold zBy;cases h:Op.bytesLess a.toList b.toList
   · by_cases he:a=b <;> simp[he]
   · simp
 · simp
 · simp
 · simp only[Bool.and_self,if_pos];unfold zFe;by_cases h1:yN a.data.toList<yN b.data.toList
   · simp[h1]
   · by_cases h2:yN b.data.toList<yN a.data.toList <;> simp[h1,h2]
theorem wZ (a b:ByteArray):zBR a b=0↔a=b:=by
 constructor
 · intro h;unfold zBR at h;cases ha:zC0 a <;> cases hb:zC0 b
   · rw[ha,hb]at h;simp at h;unfold zBy at h;split at h
     · omega
     · split at h
       · assumption
       · omega
   · rw[ha,hb]at h;simp at h
   · rw[ha,hb]at h;simp at h
   · rw[ha,hb]at h;simp at h;unfold zFe at h;split at h
     · omega
     · split at h
       · omega
       · exact zFI ha hb (by omega)
 · rintro rfl;unfold zBR;cases ha:zC0 a
   · simp;unfold zBy;rw[zEN];simp
   · simp;unfold zFe;simp
theorem zIy (a:ByteArray):zK0 a a=false:=by
 rw[←zGe,(wZ a a).2 rfl];rfl
theorem zGg (a b c:ByteArray) (h1:zK0 a b=true) (h2:zK0 b c=true):zK0 a c=true:=by
 unfold zK0 at h1 h2 ⊢;cases ha:zC0 a <;> cases hb:zC0 b <;> cases hc:zC0 c <;> rw[ha,hb]at h1 <;> rw[hb,hc]at h2 <;> simp at h1 h2 ⊢
 · exact zEL _ _ _ h1 h2
 · omega
theorem zGh (a b:ByteArray) (h:a≠b):zK0 a b=true∨zK0 b a=true:=by
 rcases Int.lt_trichotomy (zBR a b) 0 with h1 | h1 | h1
 · exact .inl (by rw[←zGe];simpa using h1)
 · exact absurd ((wZ a b).1 h1) h
 · right;unfold zBR at h1;unfold zK0;cases ha:zC0 a <;> cases hb:zC0 b <;> rw[ha,hb]at h1 <;> simp at h1 ⊢
   · unfold zBy at h1;cases hx:Op.bytesLess b.toList a.toList
     · cases hy:Op.bytesLess a.toList b.toList
       · exact absurd (uP (zEM _ _ hy hx)) h
       · rw[hy]at h1;simp at h1
     · rfl
   · unfold zFe at h1;split at h1
     · omega
     · split at h1
       · assumption
       · omega
theorem zJl:∀(a b:List ByteArray),decide (uX a b<0)=zJ0 a b
 | [],[]=>rfl
 | [],_::_=>rfl
 | _::_,[]=>rfl
 | x::r,y::s=>by
   unfold uX zJ0;by_cases h:x=y
   · subst h;rw[if_pos ((wZ x x).2 rfl),if_pos rfl,zJl r s]
   · rw[if_neg (fun e=>h ((wZ x y).1 e)),if_neg h,zGe]
theorem zFG:∀(a b:List ByteArray),uX a b=0↔a=b
 | [],[]=>by simp[uX]
 | [],_::_=>by simp[uX]
 | _::_,[]=>by simp[uX]
 | x::r,y::s=>by
   unfold uX;by_cases h:x=y
   · subst h;rw[if_pos ((wZ x x).2 rfl),zFG r s];simp
   · have ht:¬zBR x y=0:=fun e=>h ((wZ x y).1 e);rw[if_neg ht];simp[h];exact ht
theorem zAB (a b:ByteArray):zBy a b=0↔a=b:=by
 unfold zBy;constructor
 · intro h;split at h
   · omega
   · split at h
     · assumption
     · omega
 · rintro rfl;rw[zEN];simp
theorem zLp (a b:ByteArray):decide (zBy a b<0)=Op.bytesLess a.toList b.toList:=by
 unfold zBy;cases h:Op.bytesLess a.toList b.toList
 · by_cases he:a=b <;> simp[he]
 · simp
theorem zFH (n n':ByteArray) (s s':List ByteArray):decide (zAq n s n' s'<0)=zBr n s n' s':=by
 unfold zAq zBr orI;by_cases h:n=n'
 · subst h;rw[if_pos ((zAB n n).2 rfl),if_pos rfl,zJl]
 · rw[if_neg (fun e=>h ((zAB n n').1 e)),if_neg h,zLp]
theorem zHq (n n':ByteArray) (s s':List ByteArray):zAq n s n' s'=0↔n=n'∧s=s':=by
 unfold zAq orI;by_cases h:n=n'
 · subst h;rw[if_pos ((zAB n n).2 rfl),zFG];simp
 · rw[if_neg (fun e=>h ((zAB n n').1 e)),zAB];simp[h]
theorem zDw:∀(a b c:List ByteArray),zJ0 a b=true→zJ0 b c=true→zJ0 a c=true
 | _,[],[],_,h=>by simp[zJ0]at h
 | [],[],_::_,h,_=>by simp[zJ0]at h
 | _::_,[],_::_,h,_=>by simp[zJ0]at h
 | _,_::_,[],_,h=>by simp[zJ0]at h
 | [],_::_,_::_,_,_=>rfl
 | x::r,y::s,z::t,h1,h2=>by
   unfold zJ0 at h1 h2 ⊢;by_cases e1:x=y
   · subst e1;rw[if_pos rfl]at h1;by_cases e2:x=z
     · subst e2;rw[if_pos rfl]at h2 ⊢;exact zDw r s t h1 h2
     · rw[if_neg e2]at h2 ⊢;exact h2
   · rw[if_neg e1]at h1;by_cases e2:y=z
     · subst e2;rw[if_neg e1];exact h1
     · rw[if_neg e2]at h2;have h3:=zGg x y z h1 h2;by_cases e3:x=z
       · subst e3;rw[zIy]at h3;cases h3
       · rw[if_neg e3];exact h3
theorem zGJ (n1 n2 n3:ByteArray) (s1 s2 s3:List ByteArray) (h1:zBr n1 s1 n2 s2=true) (h2:zBr n2 s2 n3 s3=true):zBr n1 s1 n3 s3=true:=by
 unfold zBr at h1 h2 ⊢;by_cases e1:n1=n2
 · subst e1;rw[if_pos rfl]at h1;by_cases e2:n1=n3
   · subst e2;rw[if_pos rfl]at h2 ⊢;exact zDw _ _ _ h1 h2
   · rw[if_neg e2]at h2 ⊢;exact h2
 · rw[if_neg e1]at h1;by_cases e2:n2=n3
   · subst e2;rw[if_neg e1];exact h1
   · rw[if_neg e2]at h2;have h3:=zEL _ _ _ h1 h2;by_cases e3:n1=n3
     · subst e3;rw[zEN]at h3;cases h3
     · rw[if_neg e3];exact h3
end Go.Proofs.YtgmaamnofhmecaaGreatDoor
