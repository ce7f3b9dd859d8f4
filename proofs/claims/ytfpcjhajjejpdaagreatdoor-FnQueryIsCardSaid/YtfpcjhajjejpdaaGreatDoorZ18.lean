import Derived.Test.YtfpcjhajjejpdaaGreatDoorZ00
namespace Go.Proofs.YtfpcjhajjejpdaaGreatDoor.Stab
structure Weak {α:Type} (lt:α→α→Bool):Prop where
 irr:∀a,lt a a=false
 trans:∀a b c,lt a b=true→lt b c=true→lt a c=true
 neg:∀a b c,lt a b=false→lt b c=false→lt a c=false
section
variable {α:Type} {lt:α→α→Bool}
def Srt (lt:α→α→Bool) (l:List α):Prop:=l.Pairwise fun a b=>lt b a=false
def mrg (lt:α→α→Bool) (xs ys:List α):List α:=xs.merge ys fun x y=>!lt y x
theorem mrg_nil_left (ys:List α):mrg lt [] ys=ys:=by simp[mrg]
theorem mrg_nil_right (xs:List α):mrg lt xs []=xs:=by simp[mrg]
theorem mrg_cons (x y:α) (xs ys:List α):mrg lt (x::xs) (y::ys)=if lt y x=true then y::mrg lt (x::xs) ys else x::mrg lt xs (y::ys):=by
 unfold mrg;rw[List.cons_merge_cons];cases lt y x <;> rfl
theorem mrg_len:∀(xs ys:List α),(mrg lt xs ys).length=xs.length+ys.length:=fun xs ys=>by
 unfold mrg;exact List.length_merge _ _ _
theorem zLh (xs ys:List α) (a:α):a∈mrg lt xs ys↔a∈xs∨a∈ys:=by
 unfold mrg;exact List.mem_merge
theorem zLg (h:Weak lt) {xs ys:List α} (hx:Srt lt xs) (hy:Srt lt ys):Srt lt (mrg lt xs ys):=by
 have:=List.pairwise_merge (le:=fun x y=>!lt y x) (fun a b c h1 h2=>by
  simp only[Bool.not_eq_true']at *
  exact h.neg c b a h2 h1) (fun a b=>by
  cases h1:lt b a
  · rfl
  · cases h2:lt a b
    · rfl
    · have:=h.trans _ _ _ h1 h2;rw[h.irr]at this
      cases this) xs ys (hx.imp (fun h=>by simpa using h)) (hy.imp (fun h=>by simpa using h))
 exact this.imp (fun h=>by simpa using h)
theorem yP:∀(u v x y:List α),(∀b∈x,∀a∈v,lt b a=true)→(∀a∈u,∀b∈y,lt b a=false)→mrg lt (u++v) (x++y)=mrg lt u x++mrg lt v y
 | [],v,[],y,_,_=>by simp[mrg_nil_left]
 | a::u,v,[],y,h1,h2=>by
   have ih:=yP u v [] y h1 (fun a' ha'=>h2 a' (List.mem_cons_of_mem _ ha'));simp only[List.nil_append,mrg_nil_right]at ih ⊢
   match y,h2,ih with
   | [],_,_=>simp[mrg_nil_right]
   | b::y,h2,ih=>rw[List.cons_append,mrg_cons,if_neg (by rw[h2 a (by simp) b (by simp)];simp),ih];rfl
 | [],v,b::x,y,h1,h2=>by
   have ih:=yP [] v x y (fun b' hb'=>h1 b' (List.mem_cons_of_mem _ hb')) h2;simp only[List.nil_append,mrg_nil_left]at ih ⊢
   match v,h1,ih with
   | [],_,_=>simp[mrg_nil_left]
   | a::v,h1,ih=>rw[List.cons_append,mrg_cons,if_pos (h1 b (by simp) a (by simp)),ih];rfl
 | a::u,v,b::x,y,h1,h2=>by
   by_cases h:lt b a=true
   · have ih:=yP (a::u) v x y (fun b' hb'=>h1 b' (List.mem_cons_of_mem _ hb')) h2;simp only[List.cons_append]at ih ⊢;rw[mrg_cons,mrg_cons,if_pos h,if_pos h,ih];rfl
   · have ih:=yP u v (b::x) y h1 (fun a' ha'=>h2 a' (List.mem_cons_of_mem _ ha'));simp only[List.cons_append]at ih ⊢;rw[mrg_cons,mrg_cons,if_neg h,if_neg h,ih];rfl
theorem zIb {r:α} {A B:List α} (hA:∀x∈A,lt r x=false) (hB:∀x∈B,lt r x=true):mrg lt (A++B) [r]=A++r::B:=by
 have h:=yP (lt:=lt) A B [] [r] (fun b hb=>by cases hb) (fun a ha b hb=>by rw[List.mem_singleton.1 hb];exact hA a ha);rw[List.nil_append,mrg_nil_right]at h;rw[h]
 congr 1
 have h':=yP (lt:=lt) [] B [r] [] (fun b hb a ha=>by rw[List.mem_singleton.1 hb];exact hB a ha) (fun a ha=>by cases ha);simpa [mrg_nil_left,mrg_nil_right] using h'
theorem zHX {r:α} {A B:List α} (hA:∀x∈A,lt x r=true) (hB:∀x∈B,lt x r=false):mrg lt [r] (A++B)=A++r::B:=by
 have h:=yP (lt:=lt) [] [r] A B (fun b hb a ha=>by rw[List.mem_singleton.1 ha];exact hA b hb) (fun a ha=>by cases ha);rw[List.nil_append,mrg_nil_left]at h;rw[h]
 congr 1
 have h':=yP (lt:=lt) [r] [] [] B (fun b hb=>by cases hb) (fun a ha b hb=>by rw[List.mem_singleton.1 ha];exact hB b hb);simpa [mrg_nil_left,mrg_nil_right] using h'
theorem zBH (h:Weak lt) (r:α):∀(X Y:List α),mrg lt (mrg lt X Y) [r]=mrg lt X (mrg lt Y [r])
 | [],Y=>by simp[mrg_nil_left]
 | x::xs,[]=>by simp[mrg_nil_right,mrg_nil_left]
 | x::xs,y::ys=>by
   by_cases h1:lt y x=true
   · have ih:=zBH h r (x::xs) ys;rw[mrg_cons x y,if_pos h1,mrg_cons y r,mrg_cons y r ys];by_cases h2:lt r y=true
     · rw[if_pos h2,if_pos h2,mrg_cons x r,if_pos (h.trans _ _ _ h2 h1),mrg_nil_right,mrg_nil_right,mrg_cons x y,if_pos h1]
     · rw[if_neg h2,if_neg h2,mrg_cons x y,if_pos h1,ih]
   · have ih:=zBH h r xs (y::ys);rw[mrg_cons x y,if_neg h1];by_cases h2:lt r y=true
     · by_cases h3:lt r x=true
       · rw[mrg_cons x r,if_pos h3,mrg_cons y r,if_pos h2,mrg_cons x r,if_pos h3,mrg_nil_right,mrg_nil_right,mrg_cons x y,if_neg h1]
       · rw[mrg_cons x r,if_neg h3,ih,mrg_cons y r,if_pos h2,mrg_cons x r,if_neg h3]
     · have h3:¬lt r x=true:=by have:=h.neg r y x (by simpa using h2) (by simpa using h1);rw[this];simp
       rw[mrg_cons x r,if_neg h3,ih,mrg_cons y r,if_neg h2,mrg_cons x y,if_neg h1]
termination_by X Y=>X.length+Y.length
def srt (lt:α→α→Bool) (l:List α):List α:=l.foldl (fun acc r=>mrg lt acc [r]) []
theorem srt_snoc (l:List α) (r:α):srt lt (l++[r])=mrg lt (srt lt l) [r]:=by simp[srt]
theorem srt_srt (h:Weak lt) (l:List α):Srt lt (srt lt l):=by
 unfold srt
 have:∀(l acc:List α),Srt lt acc→Srt lt (l.foldl (fun acc r=>mrg lt acc [r]) acc):=by
  intro l
  induction l with
  | nil=>exact fun acc h=>h
  | cons r l ih=>exact fun acc ha=>ih _ (zLg h ha (List.pairwise_singleton _ _))
 exact this l [] List.Pairwise.nil
theorem srt_append (h:Weak lt) (A:List α) (B:List α):srt lt (A++B)=mrg lt (srt lt A) (srt lt B):=by
 have:∀(B acc Y:List α),B.foldl (fun acc r=>mrg lt acc [r]) (mrg lt acc Y)=mrg lt acc (B.foldl (fun acc r=>mrg lt acc [r]) Y):=by
  intro B
  induction B with
  | nil=>exact fun acc Y=>rfl
  | cons r B ih=>intro acc Y;rw[List.foldl_cons,List.foldl_cons,zBH h,ih]
 have h2:=this B (srt lt A) [];rw[mrg_nil_right]at h2;unfold srt at h2 ⊢;rw[List.foldl_append,h2]
theorem srt_len (l:List α):(srt lt l).length=l.length:=by
 have:∀(l acc:List α),(l.foldl (fun acc r=>mrg lt acc [r]) acc).length=acc.length+l.length:=by
  intro l
  induction l with
  | nil=>exact fun acc=>rfl
  | cons r l ih=>intro acc;rw[List.foldl_cons,ih,mrg_len];simp;omega
 simpa [srt] using this l []
theorem srt_mem (l:List α) (a:α):a∈srt lt l↔a∈l:=by
 have:∀(l acc:List α),a∈l.foldl (fun acc r=>mrg lt acc [r]) acc↔a∈acc∨a∈l:=by
  intro l
  induction l with
  | nil=>intro acc;simp
  | cons r l ih=>intro acc;rw[List.foldl_cons,ih,zLh];simp[or_assoc]
 simpa [srt] using this l []
end
end Go.Proofs.YtfpcjhajjejpdaaGreatDoor.Stab
