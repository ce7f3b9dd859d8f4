import Derived.Test.YtfpcjhajjejpdaaGreatDoorZ16
import Derived.Test.YtfpcjhajjejpdaaGreatDoorZ15
import Derived.Test.YtfpcjhajjejpdaaGreatDoorZ23
import Derived.Test.YtfpcjhajjejpdaaGreatDoorZ21
import Derived.Test.YtfpcjhajjejpdaaGreatDoorZ22
namespace Go.Proofs.YtfpcjhajjejpdaaGreatDoor
open Go.RowKit
theorem zAX {a b c:NodeD} (h1:zM0 a b=true) (h2:zM0 b c=true):zM0 a c=true:=by
 unfold zM0 at *;rw[zAz]at *;exact zGA _ _ _ _ _ _ h1 h2
theorem zJl {a b:NodeD} (hn:a.name=b.name) (hs:a.subs=b.subs):zM0 a b=false:=by
 unfold zM0;rw[zAz,hn,hs,←zFw,(zHk _ _ _ _).2 ⟨rfl,rfl⟩];rfl
theorem zEZ {l:List NodeD} (h:uA l=true) (k:Nat) (hk:k+1<l.length):zM0 (l.getD k default) (l.getD (k+1) default)=true:=by
 unfold uA at h;rw[Bool.and_eq_true]at h;have h2:=(wO (zJ0 l) l.length 0).1 h.2 (k+1) (by omega) (by omega);unfold zJ0 at h2;simp only[Bool.and_eq_true,Bool.or_eq_true,decide_eq_true_eq]at h2;rcases h2.2 with h3 | h3
 · omega
 · simpa using h3
theorem zGd {l:List NodeD} (h:uA l=true):∀(m i:Nat),i+m+1<l.length→zM0 (l.getD i default) (l.getD (i+m+1) default)=true
 | 0,i,hj=>zEZ h i hj
 | m+1,i,hj=>zAX (zGd h m i (by omega)) (zEZ h (i+m+1) hj)
theorem zIJ {l:List NodeD} (h:uA l=true):l.Pairwise fun a b=>zM0 a b=true:=by
 rw[List.pairwise_iff_getElem];intro i j hi hj hij;have:=zGd h (j-i-1) i (by omega);rw[show i+(j-i-1)+1=j by omega]at this;rw[List.getD_eq_getElem?_getD,List.getD_eq_getElem?_getD,List.getElem?_eq_getElem hi,List.getElem?_eq_getElem hj]at this;exact this
theorem zKj {l:List ByteArray} (h:l.length=2):l=[l.getD 0 ByteArray.empty,l.getD 1 ByteArray.empty]:=by
 match l,h with
 | [a,b],_=>rfl
theorem zGm {g key:ByteArray} {l:List NodeD} (h:uA l=true):((xB g l).filter (wU key)).length≤1:=by
 have hp:((xB g l).filter (wU key)).Pairwise (fun a b=>zM0 a b=true):=((zIJ h).filter _).filter _;have hm:∀d∈(xB g l).filter (wU key),d.name=g∧d.subs=[⟨#[114]⟩,key]:=by intro d hd;rw[List.mem_filter]at hd;obtain⟨hd,hk⟩:=hd;unfold xB at hd;rw[List.mem_filter]at hd;have h1:=hd.2;unfold yS at h1;unfold wU at hk;simp only[Bool.and_eq_true,decide_eq_true_eq]at h1 hk;obtain⟨e1,e2,e3⟩:=h1;exact⟨e1,by rw[zKj e2,e3,hk]⟩
 generalize (xB g l).filter (wU key)=r at *
 match r,hp,hm with
 | [],_,_=>simp
 | [_],_,_=>simp
 | a::b::r,hp,hm=>exfalso;have h1:=(List.pairwise_cons.1 hp).1 b (by simp);have ha:=hm a (by simp);have hb:=hm b (by simp);rw[zJl (ha.1.trans hb.1.symm) (ha.2.trans hb.2.symm)]at h1;cases h1
end Go.Proofs.YtfpcjhajjejpdaaGreatDoor
namespace Go.Proofs.YtfpcjhajjejpdaaGreatDoor
open Go.RowKit
set_option linter.unusedVariables false
theorem zIX (p:ByteArray→Bool):∀(l:List ByteArray) (k j:Nat),j<l.length→p (l.getD j ByteArray.empty)=true→(∀i,i<j→p (l.getD i ByteArray.empty)=false)→yN p l k=((k+j:Nat):Int)
 | [],_,_,hj,_,_=>by simp at hj
 | x::r,k,0,_,hp,_=>by simp only[List.getD_cons_zero]at hp;simp[yN,hp]
 | x::r,k,j+1,hj,hp,hn=>by
   have h0:=hn 0 (by omega);simp only[List.getD_cons_zero]at h0;have ih:=zIX p r (k+1) j (by simpa using hj) (by simpa using hp) (fun i hi=>by simpa using hn (i+1) (by omega));unfold yN;rw[if_neg (by rw[h0];simp),ih]
   congr 1
   omega
theorem zGX (p:ByteArray→Bool):∀(l:List ByteArray) (k:Nat),0≤yN p l k→∃j,j<l.length∧yN p l k=((k+j:Nat):Int)∧p (l.getD j ByteArray.empty)=true
 | [],_,h=>by simp[yN]at h
 | x::r,k,h=>by
   unfold yN at h ⊢;by_cases hd:p x=true
   · exact⟨0,by simp,by rw[if_pos hd];rfl,by simpa using hd⟩
   · rw[if_neg hd]at h ⊢;obtain⟨j,h1,h2,h3⟩:=zGX p r (k+1) h;exact⟨j+1,by simpa using h1,by rw[h2];congr 1;omega,by simpa using h3⟩
theorem zJy {l:List ByteArray} {x:ByteArray} (h:0≤xA l x):∃j,j<l.length∧xA l x=(j:Int)∧l.getD j ByteArray.empty=x:=by
 obtain⟨j,h1,h2,h3⟩:=zGX _ l 0 h;exact⟨j,h1,by rw[show xA l x=yN (fun y=>decide (y=x)) l 0 from rfl,h2];simp,of_decide_eq_true h3⟩
theorem zDG {b:TableD} (h:wM b=true):∀k,k<b.cols.length→zB0 (b.cols.getD k ByteArray.empty)=true∧xA (b.cols.take k) (b.cols.getD k ByteArray.empty)<0:=by
 unfold wM at h;simp only[Bool.and_eq_true]at h;intro k hk;have h2:=(wO (xI b.cols) b.cols.length 0).1 h.2.2.2.2.2.1 k (by omega) (by omega);unfold xI at h2;simpa using h2
theorem zBF {b:TableD} (h:wM b=true) {k:Nat} (hk:k<b.cols.length):xA b.cols (b.cols.getD k ByteArray.empty)=(k:Int):=by
 have h1:=(zDG h k hk).2
 have h2:=zIX (fun y=>decide (y=b.cols.getD k ByteArray.empty)) b.cols 0 k hk (by simp) (fun i hi=>by
  by_cases e:b.cols.getD i ByteArray.empty=b.cols.getD k ByteArray.empty
  · exfalso;have h3:=zCB (b.cols.take k) (b.cols.getD k ByteArray.empty);rw[decide_eq_false (by omega)]at h3;have h4:((b.cols.take k).any fun y=>decide (y=b.cols.getD k ByteArray.empty))=true:=by rw[List.any_eq_true];refine⟨b.cols.getD i ByteArray.empty,?_,by rw[e];simp⟩;rw[List.getD_eq_getElem?_getD,List.getElem?_eq_getElem (by omega),Option.getD_some];rw[List.mem_take_iff_getElem];exact⟨i,by omega,rfl⟩
    rw[←h3]at h4;cases h4
  · exact decide_eq_false e)
 rw[show xA b.cols (b.cols.getD k ByteArray.empty)=yN (fun y=>decide (y=b.cols.getD k ByteArray.empty)) b.cols 0 from rfl,h2];simp
theorem zKw {b:TableD} (h:wM b=true) {r:List ByteArray} (hl:r.length=b.cols.length):xL b.cols b.cols r=r:=by
 unfold xL;apply List.ext_getElem (by simp[hl]);intro i h1 h2;rw[List.getElem_map];have hi:i<b.cols.length:=by simpa using h1
 have h3:=zBF h hi;rw[List.getD_eq_getElem?_getD,List.getElem?_eq_getElem hi,Option.getD_some]at h3;rw[h3,Int.toNat_natCast,List.getD_eq_getElem?_getD,List.getElem?_eq_getElem h2,Option.getD_some]
theorem zHc {b:TableD} {q:QueryD} (h:vS b q=true):wM b=true:=by
 unfold vS at h;simp only[Bool.and_eq_true]at h;exact h.1
theorem zIn {α:Type} {p:α→Bool} {l:List α} (h:(l.filter p).length≤1) {a c:α} (ha:a∈l) (hc:c∈l) (h1:p a=true) (h2:p c=true):a=c:=by
 have m1:=List.mem_filter.2 ⟨ha,h1⟩;have m2:=List.mem_filter.2 ⟨hc,h2⟩;generalize l.filter p=r at *
 match r,h,m1,m2 with
 | [],_,m1,_=>simp at m1
 | [x],_,m1,m2=>rw[List.mem_singleton]at m1 m2;rw[m1,m2]
 | _::_::_,h,_,_=>simp at h
theorem zGY {α:Type} [Inhabited α] (p:α→Bool):∀(l:List α) (k:Nat),0≤wL p l k→∃j,j<l.length∧wL p l k=((k+j:Nat):Int)∧p (l.getD j default)=true
 | [],_,h=>by simp[wL]at h
 | x::r,k,h=>by
   unfold wL at h ⊢;by_cases hd:p x=true
   · exact⟨0,by simp,by rw[if_pos hd];rfl,by simpa using hd⟩
   · rw[if_neg hd]at h ⊢;obtain⟨j,h1,h2,h3⟩:=zGY p r (k+1) h;exact⟨j+1,by simpa using h1,by rw[h2];congr 1;omega,by simpa using h3⟩
theorem zLy {g:ByteArray} {fs:List NodeD} (ht:uA fs=true) {d:NodeD} (hd:d∈xB g fs):∃j,j<(xB g fs).length∧atI (xB g fs) (d.subs.getD 1 ByteArray.empty)=(j:Int)∧(xB g fs).getD j default=d:=by
 have hk:wU (d.subs.getD 1 ByteArray.empty) d=true:=by unfold wU;simp
 have hx:=zEd (wU (d.subs.getD 1 ByteArray.empty)) (xB g fs) 0;have h0:0≤wL (wU (d.subs.getD 1 ByteArray.empty)) (xB g fs) 0:=by have:((xB g fs).any (wU (d.subs.getD 1 ByteArray.empty)))=true:=List.any_eq_true.2 ⟨d,hd,hk⟩;rw[this]at hx;exact of_decide_eq_true hx
 obtain⟨j,h1,h2,h3⟩:=zGY _ _ 0 h0;exact⟨j,h1,by rw[show atI (xB g fs) (d.subs.getD 1 ByteArray.empty)=wL (wU (d.subs.getD 1 ByteArray.empty)) (xB g fs) 0 from rfl,h2];simp,zIn (zGm ht) (wB _ j h1) hd h3 hk⟩
theorem zKU {cols key val:ByteArray} {cs:List ByteArray} {x:List ByteArray} (h:uH cs key val=some x):x.getD 0 ByteArray.empty=key:=by
 unfold uH at h;split at h
 · simp at h
 · simp only[Option.some.injEq]at h;subst h;rfl
theorem zCX {f:NodeD→Option (List ByteArray)}:∀{l:List NodeD} {rs:List (List ByteArray)},wE f l=some rs→∀r∈rs,∃d∈l,f d=some r
 | [],rs,h=>by simp only[wE,Option.some.injEq]at h;subst h;intro r hr;simp at hr
 | d::t,rs,h=>by
   unfold wE at h;split at h
   · simp at h
   · next x hx =>
     cases hu:wE f t with
     | none=>rw[hu]at h;simp at h
     | some ys =>
       rw[hu]at h;simp only[Option.map_some,Option.some.injEq]at h;subst h;intro r hr;rcases List.mem_cons.1 hr with h3 | h3
       · subst h3;exact⟨d,by simp,hx⟩
       · obtain⟨d',h4,h5⟩:=zCX hu r h3;exact⟨d',List.mem_cons_of_mem _ h4,h5⟩
theorem zJq {cs:List ByteArray} {ns:List NodeD} {r:List ByteArray} (h:r∈(yI cs ns).2):∃d∈ns,zDY cs d=some r:=by
 unfold yI at h;split at h
 · simp at h
 · cases hu:wE (zDY cs) ns with
   | none=>rw[hu]at h;simp at h
   | some rs=>rw[hu]at h;exact zCX hu r h
theorem zJr {cs:List ByteArray} {g:ByteArray} {fs:List NodeD} (ht:uA fs=true) {r:List ByteArray} (h:r∈(yI cs (xB g fs)).2):vX cs (xB g fs) (r.getD 0 ByteArray.empty)=(0,r):=by
 obtain⟨d,hd,hk⟩:=zJq h;unfold zDY at hk;obtain⟨j,h1,h2,h3⟩:=zLy ht hd;unfold vX;rw[zKU (cols:=ByteArray.empty) hk,h2,if_neg (by omega),Int.toNat_natCast,h3,hk];rfl
theorem zHI {cols:List ByteArray} {q:QueryD} {rs:List (List ByteArray)} {r:List ByteArray} (h:r∈wF cols q rs):r∈rs:=by
 unfold wF at h;split at h
 · exact h
 · exact(Stab.srt_mem _ _).1 h
theorem zLp {k:Int} {rs:List (List ByteArray)} {r:List ByteArray} (h:r∈yT k rs):r∈rs:=by
 unfold yT at h;split at h
 · exact h
 · exact List.mem_of_mem_take h
structure QIs (fs:List NodeD) (b:TableD) (q:QueryD) (rows:List (List ByteArray)):Prop where
 few:rows.length≤24
 small:∀k,k<rows.length→yH (rows.getD k default)∧(rows.getD k default).length=b.cols.length
 found:∀k,k<rows.length→vX b.cols (xB b.glob fs) ((rows.getD k default).getD 0 ByteArray.empty)=(0,rows.getD k default)
 cond:∀k,k<rows.length→∀i,i<q.wher.length→∀c,c<b.cols.length→b.cols.getD c ByteArray.empty=(q.wher.getD i default).col→uP ((rows.getD k default).getD c ByteArray.empty) (q.wher.getD i default)=true
 ord:∀k,k+1<rows.length→∀c,c<b.cols.length→b.cols.getD c ByteArray.empty=q.order→(if q.desc=true then yB ((rows.getD k default).getD c ByteArray.empty) ((rows.getD (k+1) default).getD c ByteArray.empty) else yB ((rows.getD (k+1) default).getD c ByteArray.empty) ((rows.getD k default).getD c ByteArray.empty))=false
 lim:q.limit=0∨(rows.length:Int)≤q.limit
theorem vW {α:Type} [Inhabited α] (l:List α) (k:Nat) (h:k<l.length):l.getD k default∈l:=by
 rw[List.getD_eq_getElem?_getD,List.getElem?_eq_getElem h];simp
theorem zKv {fs:List NodeD} {b:TableD} {q:QueryD} (hc:q.cols=[]) (h:(zAf fs b q).1=0):QIs fs b q (zAf fs b q).2:=by
 unfold zAf at h ⊢;split at h;case isFalse=>cases h
 case isTrue hh =>
  rw[if_pos hh];rw[Bool.and_eq_true]at hh;obtain⟨ht,hf⟩:=hh;split at h;case isFalse h0=>exact absurd h h0
  case isTrue h0 =>
   rw[if_pos h0];obtain⟨⟨f1,f2⟩,f3,f4,f4',f5,f6⟩:=vZ hf;obtain⟨g1,g2⟩:=zBE f2 h0;have htab:=zHc hf;generalize hrs:(yI b.cols (xB b.glob fs)).2=rs at *;have hrow:∀r∈yT q.limit (wF b.cols q (rs.filter (vE b.cols q.wher))),r∈rs∧vE b.cols q.wher r=true:=fun r hr=>by have:=zHI (zLp hr);rw[List.mem_filter]at this;exact this
   have hmade:yY b q rs=yT q.limit (wF b.cols q (rs.filter (vE b.cols q.wher))):=by
    unfold yY vV;rw[hc,if_pos (show([]:List ByteArray).length=0 from rfl)]
    conv=>rhs;rw[←List.map_id (yT q.limit (wF b.cols q (rs.filter (vE b.cols q.wher))))]
    apply List.map_congr_left;intro r hr;exact zKw htab (g2 r (hrow r hr).1).2
   simp only;rw[hmade]
   have hlen:(yT q.limit (wF b.cols q (rs.filter (vE b.cols q.wher)))).length≤24∧(q.limit=0∨((yT q.limit (wF b.cols q (rs.filter (vE b.cols q.wher)))).length:Int)≤q.limit):=by
    have h1:=zCD b.cols q (rs.filter (vE b.cols q.wher));have h2:=List.length_filter_le (vE b.cols q.wher) rs;have h3:=zFM q.limit (wF b.cols q (rs.filter (vE b.cols q.wher)));split at h3
    · next hz=>exact⟨by omega,.inl hz⟩
    · exact⟨by omega,.inr (by omega)⟩
   refine⟨hlen.1,fun k hk=>?_,fun k hk=>?_,fun k hk i hi c hcl he=>?_,fun k hk c hcl he=>?_,hlen.2⟩
   · exact g2 _ (hrow _ (vW _ k hk)).1
   · refine zJr ht ?_;rw[hrs];exact(hrow _ (vW _ k hk)).1
   · have h1:=(hrow _ (vW _ k hk)).2;unfold vE at h1;rw[List.all_eq_true]at h1;have h2:=h1 _ (vW _ i hi);rw[←he,zBF htab hcl,Int.toNat_natCast]at h2;exact h2
   · have hne:q.order≠⟨#[]⟩:=fun e=>by have:=(zDG htab c hcl).1;rw[he,e]at this;cases this
     have hs:Stab.Srt (ltK q.desc c) (yT q.limit (wF b.cols q (rs.filter (vE b.cols q.wher)))):=by
      have h1:Stab.Srt (ltK q.desc c) (wF b.cols q (rs.filter (vE b.cols q.wher))):=by unfold wF;rw[if_neg hne,←he,zBF htab hcl,Int.toNat_natCast];exact Stab.srt_srt (zGz _ _) _
      unfold yT;split
      · exact h1
      · exact h1.sublist (List.take_sublist _ _)
     generalize yT q.limit (wF b.cols q (rs.filter (vE b.cols q.wher)))=rows at *;have h2:=List.pairwise_iff_getElem.1 hs k (k+1) (by omega) hk (by omega);rw[List.getD_eq_getElem?_getD (l:=rows) (i:=k),List.getD_eq_getElem?_getD (l:=rows) (i:=k+1),List.getElem?_eq_getElem hk,List.getElem?_eq_getElem (show k<rows.length by omega),Option.getD_some,Option.getD_some];unfold ltK at h2;split at h2
     · next hd=>rw[if_pos hd];exact h2
     · next hd=>rw[if_neg hd];exact h2
theorem zJu {fs:List NodeD} {b:TableD} {q:QueryD} (h:(zAf fs b q).1≠0):(zAf fs b q).2=[]:=by
 unfold zAf at h ⊢;split
 · next hh =>
   rw[if_pos hh]at h;split
   · next h0=>rw[if_pos h0]at h;exact absurd rfl h
   · rfl
 · rfl
end Go.Proofs.YtfpcjhajjejpdaaGreatDoor
