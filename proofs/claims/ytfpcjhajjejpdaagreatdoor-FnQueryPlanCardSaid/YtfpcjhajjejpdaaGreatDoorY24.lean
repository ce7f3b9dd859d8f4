import Derived.Test.YtfpcjhajjejpdaaGreatDoorY23
import Derived.Test.YtfpcjhajjejpdaaGreatDoorY19
import Derived.Test.YtfpcjhajjejpdaaGreatDoorY10
open Go.Lib renaming hid → zh
namespace Go.Proofs.YtfpcjhajjejpdaaGreatDoor
open Go.RowKit
set_option linter.unusedVariables false
def uC (f:ByteArray→Int × List ByteArray):List ByteArray→Int × List (List ByteArray)
 | []=>(0,[])
 | k::r=>if (f k).1=0 then (if (uC f r).1=0 then (0,(f k).2::(uC f r).2) else ((uC f r).1,[])) else ((f k).1,[])
def wL (acc:List (List ByteArray)) (r:Int × List (List ByteArray)):Int × List (List ByteArray):=if r.1=0 then (0,acc++r.2) else (r.1,[])
theorem zJk (f:ByteArray→Int × List ByteArray) (ks:List ByteArray) (k:Nat) (acc:List (List ByteArray)) (h:k<ks.length) (hf:(f (ks.getD k ByteArray.empty)).1≠0):wL acc (uC f (ks.drop k))=((f (ks.getD k ByteArray.empty)).1,[]):=by
 rw[List.getD_eq_getElem?_getD,List.getElem?_eq_getElem h]at hf ⊢;simp only[Option.getD_some]at hf ⊢;rw[List.drop_eq_getElem_cons h,uC,if_neg hf];unfold wL;rw[if_neg hf]
theorem zKZ (f:ByteArray→Int × List ByteArray) (ks:List ByteArray) (k:Nat) (acc:List (List ByteArray)) (h:k<ks.length) (hf:(f (ks.getD k ByteArray.empty)).1=0):wL acc (uC f (ks.drop k))=wL (acc++[(f (ks.getD k ByteArray.empty)).2]) (uC f (ks.drop (k+1))):=by
 rw[List.getD_eq_getElem?_getD,List.getElem?_eq_getElem h]at hf ⊢;simp only[Option.getD_some]at hf ⊢;rw[List.drop_eq_getElem_cons h,uC,if_pos hf];unfold wL;by_cases h0:(uC f (ks.drop (k+1))).1=0
 · rw[if_pos h0,if_pos rfl,if_pos h0];simp
 · rw[if_neg h0,if_neg h0,if_neg h0]
theorem zJj (f:ByteArray→Int × List ByteArray) (ks:List ByteArray) (acc:List (List ByteArray)):wL acc (uC f (ks.drop ks.length))=(0,acc):=by
 rw[List.drop_length];simp[wL,uC]
theorem zGV (f:ByteArray→Int × List ByteArray) (ks:List ByteArray):uC f ks=wL [] (uC f (ks.drop 0)):=by
 rw[List.drop_zero];unfold wL
 cases ks with
 | nil=>rfl
 | cons k r =>
   rw[uC];split
   · split
     · simp
     · simp
   · simp
def yB (cols:List ByteArray) (g:ByteArray) (fs:List NodeD) (p:PlanD):Int × List (List ByteArray) :=
 if p.kind=1 then (if (wG cols (vA g fs) p.val).1=3 then (0,[]) else if (wG cols (vA g fs) p.val).1=0 then (0,[(wG cols (vA g fs) p.val).2]) else ((wG cols (vA g fs) p.val).1,[]))
 else if p.kind=2 then (if (uC (wG cols (vA g fs)) (yL g p.col p.val fs)).1=0 then (if 24<(uC (wG cols (vA g fs)) (yL g p.col p.val fs)).2.length then (4,[]) else uC (wG cols (vA g fs)) (yL g p.col p.val fs)) else ((uC (wG cols (vA g fs)) (yL g p.col p.val fs)).1,[]))
 else zF0 cols (vA g fs)
theorem zFa {fs:List NodeD} {g col val:ByteArray} (hs:vC fs):∀s∈yL g col val fs,s.size≤1048576:=by
 intro s h;unfold yL at h;obtain⟨d,hd,rfl⟩:=List.mem_map.1 h;obtain⟨h1,h2⟩:=List.mem_filter.1 hd;unfold zAz at h2;simp only[Bool.and_eq_true,decide_eq_true_eq]at h2;exact(hs.2 d h1).2.1.2 _ (uD _ _ (by rw[h2.2.1];omega))
end Go.Proofs.YtfpcjhajjejpdaaGreatDoor
namespace Go.Proofs.YtfpcjhajjejpdaaGreatDoor
open Go.RowKit
set_option linter.unusedVariables false
def uW (b:TableD) (rows:List (List ByteArray)) (d:NodeD):Bool :=
 decide (d.subs.length=4)&&(decide (0≤xA b.idx (d.subs.getD 1 ByteArray.empty))&&(decide (d.val=⟨#[]⟩)&&rows.any fun r=>decide (r.getD 0 ByteArray.empty=d.subs.getD 3 ByteArray.empty)&&decide (cellAt b.cols r (d.subs.getD 1 ByteArray.empty)=d.subs.getD 2 ByteArray.empty)))
def zHe (g:ByteArray) (d:NodeD):Bool:=decide (d.name=g)&&(decide (0<d.subs.length)&&decide (d.subs.getD 0 ByteArray.empty=iS))
def zAp (nm:ByteArray) (ss:List ByteArray) (d:NodeD) (out:Int):Int:=if inN nm ss d=true then (if d.subs.length=ss.length then out+1 else if out<10 then out+10 else out) else out
def zAq (nm:ByteArray) (ss:List ByteArray) (fs:List NodeD):Int:=fs.foldl (fun out d=>zAp nm ss d out) 0
def zDf (fs:List NodeD) (nm:ByteArray) (ss:List ByteArray):Int:=if (uA fs&&zI0 nm ss)=true then zAq nm ss fs else 0
def zBE (fs:List NodeD) (c:ChgD):Bool:=decide (zDf fs c.name c.subs % 10=1)
def xW (fs:List NodeD) (b:TableD) (r:List ByteArray):Bool:=b.idx.all fun c=>(zAA 1 b.glob b.cols r c).all (zBE fs)
def vP (fs:List NodeD) (b:TableD):Bool :=
 (uA fs&&xP b)&&(decide ((zF0 b.cols (vA b.glob fs)).1=0)&&((fs.all fun d=>!zHe b.glob d||uW b (zF0 b.cols (vA b.glob fs)).2 d)&&(zF0 b.cols (vA b.glob fs)).2.all (xW fs b)))
theorem zJf {a c:List ByteArray} (h:yD a c=true) (hl:c.length=a.length):c=a:=by
 have h2:=zAD a c;rw[h,decide_eq_true hl.symm]at h2;have h3:eqS a c=true:=by rw[←h2];rfl
 unfold eqS at h3;exact(of_decide_eq_true h3).symm
theorem zJS {nm:ByteArray} {ss:List ByteArray} {fs:List NodeD} (h:zAq nm ss fs % 10=1):∃d∈fs,d.name=nm∧d.subs=ss:=by
 have key:∀(l:List NodeD) (o:Int),(∀d∈l,¬(d.name=nm∧d.subs=ss))→(l.foldl (fun out d=>zAp nm ss d out) o) % 10=o % 10:=by
  intro l
  induction l with
  | nil=>intro o _;rfl
  | cons d t ih =>
    intro o hn;rw[List.foldl_cons,ih _ (fun d' hd'=>hn d' (List.mem_cons_of_mem _ hd'))];unfold zAp;split
    · next hin =>
      unfold inN at hin;rw[Bool.and_eq_true,decide_eq_true_eq]at hin;split
      · next hl=>exact absurd ⟨hin.1,zJf hin.2 hl⟩ (hn d (by simp))
      · split <;> omega
    · rfl
 by_cases hx:∃d∈fs,d.name=nm∧d.subs=ss
 · exact hx
 · exfalso;have h2:=key fs 0 (fun d hd hc=>hx ⟨d,hd,hc⟩);unfold zAq at h;rw[h2]at h;exact absurd h (by decide)
theorem zEE {α:Type} {lt:α→α→Bool} (hirr:∀a,lt a a=false) (htr:∀a b c,lt a b=true→lt b c=true→lt a c=true):∀(l m:List α),l.Pairwise (fun a b=>lt a b=true)→m.Pairwise (fun a b=>lt a b=true)→(∀x,x∈l↔x∈m)→l=m
 | [],[],_,_,_=>rfl
 | [],y::m,_,_,h=>by have:=(h y).2 (by simp);simp at this
 | x::l,[],_,_,h=>by have:=(h x).1 (by simp);simp at this
 | x::l,y::m,hl,hm,h=>by
   rw[List.pairwise_cons]at hl hm
   have hxy:x=y:=by
    rcases List.mem_cons.1 ((h x).1 (by simp)) with e | h1
    · exact e
    · rcases List.mem_cons.1 ((h y).2 (by simp)) with e | h2
      · exact e.symm
      · have h3:=htr _ _ _ (hl.1 y h2) (hm.1 x h1);rw[hirr]at h3;cases h3
   subst hxy
   congr 1
   refine zEE hirr htr l m hl.2 hm.2 fun z=>⟨fun hz=>?_,fun hz=>?_⟩
   · rcases List.mem_cons.1 ((h z).1 (List.mem_cons_of_mem _ hz)) with e | h1
     · subst e;have:=hl.1 z hz;rw[hirr]at this;cases this
     · exact h1
   · rcases List.mem_cons.1 ((h z).2 (List.mem_cons_of_mem _ hz)) with e | h1
     · subst e;have:=hm.1 z hz;rw[hirr]at this;cases this
     · exact h1
theorem zBN {cs:List ByteArray}:∀{l:List NodeD} {rs:List (List ByteArray)},uE (zCF cs) l=some rs→rs.map (fun r=>r.getD 0 ByteArray.empty)=l.map fun d=>d.subs.getD 1 ByteArray.empty
 | [],rs,h=>by simp only[uE,Option.some.injEq]at h;subst h;rfl
 | d::t,rs,h=>by
   unfold uE at h;split at h
   · simp at h
   · next x hx =>
     cases hu:uE (zCF cs) t with
     | none=>rw[hu]at h;simp at h
     | some ys=>rw[hu]at h;simp only[Option.map_some,Option.some.injEq]at h;subst h;rw[List.map_cons,List.map_cons,zBN hu,zKp (cols:=ByteArray.empty) hx]
theorem zLS {g a b:ByteArray} {x y:ByteArray} (h:zAy g [a,x] g [a,y]=true):wB x y=true:=by
 unfold zAy at h;rw[if_pos rfl]at h;unfold yK at h;rw[if_pos rfl]at h;unfold yK at h;split at h
 · cases h
 · exact h
theorem zLr {g a b c:ByteArray} {x y:ByteArray} (h:zAy g [a,b,c,x] g [a,b,c,y]=true):wB x y=true:=by
 unfold zAy at h;rw[if_pos rfl]at h;unfold yK at h;rw[if_pos rfl]at h;unfold yK at h;rw[if_pos rfl]at h;unfold yK at h;rw[if_pos rfl]at h;unfold yK at h;split at h
 · cases h
 · exact h
theorem zGy {l:List ByteArray} (h:l.length=4):l=[l.getD 0 ByteArray.empty,l.getD 1 ByteArray.empty,l.getD 2 ByteArray.empty,l.getD 3 ByteArray.empty]:=by
 match l,h with
 | [a,b,c,d],_=>rfl
theorem wY {fs:List NodeD} {b:TableD} (ht:uA fs=true) (h0:(zF0 b.cols (vA b.glob fs)).1=0):((zF0 b.cols (vA b.glob fs)).2.map fun r=>r.getD 0 ByteArray.empty).Pairwise (fun x y=>wB x y=true)∧(zF0 b.cols (vA b.glob fs)).2.length=(vA b.glob fs).length:=by
 unfold zF0 at h0 ⊢;split at h0
 · cases h0
 · next hl =>
   rw[if_neg hl]
   cases hu:uE (zCF b.cols) (vA b.glob fs) with
   | none=>rw[hu]at h0;cases h0
   | some rs=>refine⟨?_,(zBj hu).1⟩;simp only;rw[zBN hu,List.pairwise_map];have hp:(vA b.glob fs).Pairwise (fun a c=>wN a c=true):=(zEt ht).filter _;refine hp.imp_of_mem fun {x y} hx hy hs=>?_;unfold vA at hx hy;have h1:=(List.mem_filter.1 hx).2;have h2:=(List.mem_filter.1 hy).2;unfold uU at h1 h2;simp only[Bool.and_eq_true,decide_eq_true_eq]at h1 h2;unfold wN at hs;rw[zAa,h1.1,h2.1,zEz h1.2.1,zEz h2.2.1,h1.2.2,h2.2.2]at hs;exact zLS (b:=ByteArray.empty) hs
theorem zGu {fs:List NodeD} {b:TableD} (h:vP fs b=true) {col val:ByteArray} (hc:0≤xA b.idx col) (hv:val≠⟨#[]⟩) :
 yL b.glob col val fs=((zF0 b.cols (vA b.glob fs)).2.filter fun r=>decide (cellAt b.cols r col=val)).map fun r=>r.getD 0 ByteArray.empty:=by
 unfold vP at h;simp only[Bool.and_eq_true,decide_eq_true_eq,List.all_eq_true]at h;obtain⟨⟨ht,hb⟩,h0,hA,hB⟩:=h;obtain⟨hs,_⟩:=wY ht h0;generalize hrs:(zF0 b.cols (vA b.glob fs)).2=rs at *;refine zEE yV yP _ _ ?_ ?_ ?_
 · unfold yL;rw[List.pairwise_map];refine((zEt ht).filter _).imp_of_mem fun {x y} hx hy hst=>?_;have h1:=(List.mem_filter.1 hx).2;have h2:=(List.mem_filter.1 hy).2;unfold zAz at h1 h2;simp only[Bool.and_eq_true,decide_eq_true_eq]at h1 h2;unfold wN at hst;rw[zAa,h1.1,h2.1,zGy h1.2.1,zGy h2.2.1,h1.2.2.1,h2.2.2.1,h1.2.2.2.1,h2.2.2.2.1,h1.2.2.2.2,h2.2.2.2.2]at hst;exact zLr hst
 · rw[List.pairwise_map]at hs ⊢;exact hs.filter _
 · intro k;rw[List.mem_map];constructor
   · intro hk;unfold yL at hk;obtain⟨d,hd,rfl⟩:=List.mem_map.1 hk;obtain⟨hd1,hd2⟩:=List.mem_filter.1 hd;unfold zAz at hd2;simp only[Bool.and_eq_true,decide_eq_true_eq]at hd2;obtain⟨e1,e2,e3,e4,e5⟩:=hd2;have hi:=hA d hd1;rw[Bool.or_eq_true,Bool.not_eq_true']at hi;rcases hi with hi | hi
     · exfalso;unfold zHe at hi;rw[e1,e2,e3]at hi;exact absurd hi (by simp[iS])
     · unfold uW at hi;simp only[Bool.and_eq_true,decide_eq_true_eq,List.any_eq_true]at hi;obtain⟨_,_,_,r,hr,hr1,hr2⟩:=hi;rw[e4,e5]at hr2;exact⟨r,List.mem_filter.2 ⟨hr,by rw[hr2];simp⟩,hr1⟩
   · rintro⟨r,hr,rfl⟩;obtain⟨hr1,hr2⟩:=List.mem_filter.1 hr;have hr2:=of_decide_eq_true hr2;have hBr:=hB r hr1;unfold xW at hBr;rw[List.all_eq_true]at hBr;obtain⟨j,hj1,_,hj3⟩:=zDx hc;have hci:=hBr col (by rw[←hj3];exact uD _ j hj1);unfold zAA at hci;rw[hr2,if_neg hv,List.all_eq_true]at hci;have hth:=hci _ (List.mem_singleton.2 rfl);unfold zBE zDf at hth;rw[decide_eq_true_eq]at hth;split at hth
     · obtain⟨d,hd,e1,e2⟩:=zJS hth;unfold yL;rw[List.mem_map];refine⟨d,List.mem_filter.2 ⟨hd,?_⟩,?_⟩
       · unfold zAz;rw[e1,e2];simp[iS]
       · unfold wI;rw[e2];rfl
     · exact absurd hth (by decide)
theorem zEM {f:ByteArray→Int × List ByteArray}:∀(l:List (List ByteArray)),(∀r∈l,f (r.getD 0 ByteArray.empty)=(0,r))→uC f (l.map fun r=>r.getD 0 ByteArray.empty)=(0,l)
 | [],_=>rfl
 | r::t,h=>by rw[List.map_cons];unfold uC;rw[h r (by simp),zEM t (fun x hx=>h x (List.mem_cons_of_mem _ hx))];rfl
def zCw (b:TableD) (p:PlanD) (r:List ByteArray):Bool:=if p.kind=3 then true else decide (cellAt b.cols r p.col=p.val)
theorem zMg {b:TableD} {q:QueryD} {p:PlanD} (h:vI b q p=true) (hk:p.kind=1):xA b.cols p.col=0:=by
 unfold vI at h;rw[Bool.and_eq_true]at h;obtain⟨hf,hp⟩:=h;unfold zBb at hp;rw[hk,if_neg (by decide),if_pos rfl,Bool.and_eq_true]at hp;obtain⟨⟨f1,_⟩,_⟩:=zP0 hf;rw[of_decide_eq_true hp.1];have:=zJs (zMs hf) (k:=0) f1;exact this
theorem zLg {fs:List NodeD} {b:TableD} {q:QueryD} {p:PlanD} (hi:vP fs b=true) (hf:vI b q p=true):yB b.cols b.glob fs p=(0,(zF0 b.cols (vA b.glob fs)).2.filter (zCw b p)):=by
 have hi2:=hi;unfold vP at hi2;simp only[Bool.and_eq_true,decide_eq_true_eq,List.all_eq_true]at hi2;obtain⟨⟨ht,hb⟩,h0,_,_⟩:=hi2;have hfb:xK b q=true:=by unfold vI at hf;rw[Bool.and_eq_true]at hf;exact hf.1
 obtain⟨⟨f1,f2⟩,_⟩:=zP0 hfb;obtain⟨g1,g2⟩:=zBn f2 h0;have hfound:=fun r hr=>zLa (cs:=b.cols) (g:=b.glob) ht (r:=r) hr;have hpl:=hf;unfold vI zBb at hpl;rw[Bool.and_eq_true]at hpl;have hpl:=hpl.2;by_cases h3:p.kind=3
 · unfold yB zCw;rw[h3,if_neg (by decide),if_neg (by decide)];simp only[if_true];have hft:∀l:List (List ByteArray),l.filter (fun _=>true)=l:=fun l=>List.filter_eq_self.2 (fun _ _=>rfl);rw[hft];exact Prod.ext h0 rfl
 rw[if_neg h3]at hpl
 have hhit:p.kind=1∨(p.kind=2∧0≤xA b.idx p.col):=by
  by_cases h1:p.kind=1
  · exact .inl h1
  · rw[if_neg h1]at hpl;by_cases h2:p.kind=2
    · rw[if_pos h2,Bool.and_eq_true]at hpl;exact .inr ⟨h2,of_decide_eq_true hpl.1⟩
    · rw[if_neg h2]at hpl;cases hpl
 have hval:p.val≠⟨#[]⟩:=by
  have:q.wher.any (zCI p)=true:=by
   rcases hhit with h1 | ⟨h2,_⟩
   · rw[if_pos h1,Bool.and_eq_true]at hpl;exact hpl.2
   · rw[h2,if_neg (by decide),if_pos rfl,Bool.and_eq_true]at hpl;exact hpl.2
  obtain⟨c,_,hc⟩:=List.any_eq_true.1 this;unfold zCI at hc;simp only[Bool.and_eq_true,decide_eq_true_eq]at hc;exact hc.2.2.2
 rcases hhit with h1 | ⟨h2,hpi⟩
 · have hcol:=zMg hf h1;have hPP:∀r,zCw b p r=decide (r.getD 0 ByteArray.empty=p.val):=fun r=>by unfold zCw cellAt;rw[if_neg h3,hcol];rfl
   unfold yB;rw[if_pos h1];rw[List.filter_congr (fun r _=>hPP r)];by_cases hex:∃r∈(zF0 b.cols (vA b.glob fs)).2,r.getD 0 ByteArray.empty=p.val
   · obtain⟨r,hr,e⟩:=hex;have hfr:=hfound r hr;rw[e]at hfr;rw[hfr];dsimp only;rw[if_neg (by decide),if_pos rfl]
     congr 1
     symm
     obtain⟨hs,_⟩:=wY ht h0;generalize (zF0 b.cols (vA b.glob fs)).2=rs at *;refine zEE (lt:=fun x y:List ByteArray=>wB (x.getD 0 ByteArray.empty) (y.getD 0 ByteArray.empty)) (fun a=>yV _) (fun a c d=>yP _ _ _) _ _ ?_ (List.pairwise_singleton _ _) fun x=>?_
     · rw[List.pairwise_map]at hs;exact hs.filter _
     · rw[List.mem_filter,List.mem_singleton];constructor
       · rintro⟨hx,hx2⟩;have h5:=hfound x hx;rw[of_decide_eq_true hx2,hfr]at h5;exact(congrArg Prod.snd h5).symm
       · rintro rfl;exact⟨hr,decide_eq_true e⟩
   · have hat:¬0≤atI (vA b.glob fs) p.val:=fun hge=>hex (by
      obtain⟨j,j1,j2,j3⟩:=zCZ (vM p.val) (vA b.glob fs) 0 hge;unfold zF0 at h0 ⊢;split at h0
      · cases h0
      · next hl =>
        rw[if_neg hl]
        cases hu:uE (zCF b.cols) (vA b.glob fs) with
        | none=>rw[hu]at h0;cases h0
        | some rs =>
          have hk:=zBN hu;have hl2:=(zBj hu).1;show ∃r,r∈rs∧r.getD 0 ByteArray.empty=p.val;have j4:(vA b.glob fs).getD j default=(vA b.glob fs)[j]:=by rw[List.getD_eq_getElem?_getD,List.getElem?_eq_getElem j1];rfl
          have j5:rs.getD j default=rs[j]'(by omega):=by rw[List.getD_eq_getElem?_getD,List.getElem?_eq_getElem (show j<rs.length by omega)];rfl
          refine⟨rs.getD j default,zX0 _ j (by omega),?_⟩;have h6:=congrArg (fun l=>l.getD j ByteArray.empty) hk;simp only[List.getD_eq_getElem?_getD,List.getElem?_map]at h6;rw[List.getElem?_eq_getElem (show j<rs.length by omega),List.getElem?_eq_getElem j1]at h6;simp only[Option.map_some,Option.getD_some]at h6;unfold vM at j3;rw[decide_eq_true_eq,j4]at j3;rw[j5,List.getD_eq_getElem?_getD,h6,←List.getD_eq_getElem?_getD]
          exact j3)
     have e3:(wG b.cols (vA b.glob fs) p.val)=(3,[]):=by unfold wG;rw[if_pos (by omega)]
     rw[e3,if_pos rfl]
     congr 1
     symm
     rw[List.filter_eq_nil_iff];intro r hr e;exact hex ⟨r,hr,of_decide_eq_true e⟩
 · have hkeys:=zGu hi hpi hval;have hPP:∀r,zCw b p r=decide (cellAt b.cols r p.col=p.val):=fun r=>by unfold zCw;rw[if_neg h3]
   have hra:uC (wG b.cols (vA b.glob fs)) (yL b.glob p.col p.val fs)=(0,(zF0 b.cols (vA b.glob fs)).2.filter fun r=>decide (cellAt b.cols r p.col=p.val)):=by rw[hkeys];exact zEM _ fun r hr=>hfound r (List.mem_filter.1 hr).1
   unfold yB
   rw[h2,if_neg (by decide),if_pos rfl,hra,if_pos rfl,if_neg (by
    have:=List.length_filter_le (fun r=>decide (cellAt b.cols r p.col=p.val)) (zF0 b.cols (vA b.glob fs)).2;simp only
    omega),List.filter_congr (fun r _=>hPP r)]
theorem zJe {b:TableD} {q:QueryD} {p:PlanD} (hf:vI b q p=true) {r:List ByteArray} (h:yI b.cols q.wher r=true):zCw b p r=true:=by
 unfold zCw;by_cases h3:p.kind=3
 · rw[if_pos h3]
 · rw[if_neg h3];unfold vI zBb at hf;rw[Bool.and_eq_true,if_neg h3]at hf
   have hany:q.wher.any (zCI p)=true:=by
    have:=hf.2;by_cases h1:p.kind=1
    · rw[if_pos h1,Bool.and_eq_true]at this;exact this.2
    · rw[if_neg h1]at this;by_cases h2:p.kind=2
      · rw[if_pos h2,Bool.and_eq_true]at this;exact this.2
      · rw[if_neg h2]at this;cases this
   obtain⟨c,hc,hh⟩:=List.any_eq_true.1 hany;unfold zCI at hh;simp only[Bool.and_eq_true,decide_eq_true_eq]at hh;unfold yI at h;have:=List.all_eq_true.1 h c hc;unfold xU at this;rw[if_pos hh.1,decide_eq_true_eq,hh.2.1,hh.2.2.1]at this;unfold cellAt;rw[this];simp
theorem zLi {b:TableD} {q:QueryD} {p:PlanD} (hf:vI b q p=true) (rs:List (List ByteArray)):wP b q (rs.filter (zCw b p))=wP b q rs:=by
 unfold wP
 have:(rs.filter (zCw b p)).filter (yI b.cols q.wher)=rs.filter (yI b.cols q.wher):=by
  rw[List.filter_filter];apply List.filter_congr;intro r _
  cases hs:yI b.cols q.wher r with
  | false=>rfl
  | true=>rw[zJe hf hs];rfl
 rw[this]
def zGv (c:CondD):Bool:=decide (c.op=1)&&decide (c.val≠⟨#[]⟩)
def yQ (b:TableD) (q:QueryD):PlanD :=
 match q.wher.find? (fun c=>zGv c&&decide (c.col=b.cols.getD 0 ByteArray.empty)) with
 | some c=>⟨1,c.col,c.val⟩
 | none=>match q.wher.find? (fun c=>zGv c&&decide (0≤xA b.idx c.col)) with
   | some c=>⟨2,c.col,c.val⟩
   | none=>⟨3,⟨#[]⟩,⟨#[]⟩⟩
theorem zII {b:TableD} {q:QueryD} (hf:xK b q=true):vI b q (yQ b q)=true:=by
 unfold vI;rw[hf,Bool.true_and];unfold yQ;split
 · next c hc=>have h1:=List.find?_some hc;have h2:=List.mem_of_find?_eq_some hc;unfold zGv at h1;simp only[Bool.and_eq_true,decide_eq_true_eq]at h1;unfold zBb;dsimp only;rw[if_neg (by decide),if_pos rfl,Bool.and_eq_true];refine⟨decide_eq_true h1.2,List.any_eq_true.2 ⟨c,h2,?_⟩⟩;unfold zCI;simp[h1.1.1,h1.1.2]
 · split
   · next c hc=>have h1:=List.find?_some hc;have h2:=List.mem_of_find?_eq_some hc;unfold zGv at h1;simp only[Bool.and_eq_true,decide_eq_true_eq]at h1;unfold zBb;dsimp only;rw[if_neg (by decide),if_neg (by decide),if_pos rfl,Bool.and_eq_true];refine⟨decide_eq_true h1.2,List.any_eq_true.2 ⟨c,h2,?_⟩⟩;unfold zCI;simp[h1.1.1,h1.1.2]
   · rfl
theorem zKX {b:TableD} {q:QueryD} (hf:xK b q=true):vI b q ⟨3,⟨#[]⟩,⟨#[]⟩⟩=true:=by
 unfold vI;rw[hf];rfl
theorem zNh {fs:List NodeD} {b:TableD} {q:QueryD} {p:PlanD} (hi:vP fs b=true) (hf:vI b q p=true):(zAk fs b q p).2=0∧(zAk fs b q ⟨3,⟨#[]⟩,⟨#[]⟩⟩).2=0∧(zAk fs b q p).1≤(zAk fs b q ⟨3,⟨#[]⟩,⟨#[]⟩⟩).1:=by
 have hi2:=hi;unfold vP at hi2;simp only[Bool.and_eq_true,decide_eq_true_eq,List.all_eq_true]at hi2;obtain⟨⟨ht,hb⟩,h0,_,_⟩:=hi2;have hfb:xK b q=true:=by unfold vI at hf;rw[Bool.and_eq_true]at hf;exact hf.1
 have hsc:=zKX hfb;obtain⟨_,hlen⟩:=wY ht h0;have e3:zAk fs b q ⟨3,⟨#[]⟩,⟨#[]⟩⟩=(((vA b.glob fs).length:Int),0):=by unfold zAk;rw[ht,hsc];rfl
 rw[e3];unfold zAk;rw[ht,hf];simp only[Bool.and_self,if_true];refine⟨trivial,trivial,?_⟩;by_cases h1:p.kind=1
 · rw[if_pos h1];split
   · next hat =>
     obtain⟨j,j1,_,_⟩:=zCZ (vM p.val) (vA b.glob fs) 0 hat
     omega
   · omega
 · rw[if_neg h1];by_cases h2:p.kind=2
   · rw[if_pos h2];have hpl:=hf;unfold vI zBb at hpl;rw[Bool.and_eq_true,h2,if_neg (by decide),if_neg (by decide),if_pos rfl,Bool.and_eq_true]at hpl;obtain⟨_,hin,hany⟩:=hpl;obtain⟨c,_,hc⟩:=List.any_eq_true.1 hany;unfold zCI at hc;simp only[Bool.and_eq_true,decide_eq_true_eq]at hc;rw[zGu hi (of_decide_eq_true hin) hc.2.2.2,List.length_map];have:=List.length_filter_le (fun r=>decide (cellAt b.cols r p.col=p.val)) (zF0 b.cols (vA b.glob fs)).2;omega
   · rw[if_neg h2];omega
end Go.Proofs.YtfpcjhajjejpdaaGreatDoor
namespace Go.Proofs.YtfpcjhajjejpdaaGreatDoor
open Go.RowKit
theorem zFt (cols:List ByteArray) (k:Nat):vL cols k=(xB (cols.getD k ByteArray.empty)&&zDD cols k):=by
 unfold vL zDD inS;rw[←zDy]
 congr 1
 rw[Bool.eq_iff_iff];simp only[decide_eq_true_eq,Bool.not_eq_true',decide_eq_false_iff_not];omega
theorem zKL (cols:List ByteArray):zD0 (vL cols) 0 cols.length=(zBg cols&&!(cols.any fun s=>!xB s)):=by
 rw[Bool.eq_iff_iff,zS0];unfold zBg;rw[Bool.and_eq_true,decide_eq_true_eq,Bool.not_eq_true',List.any_eq_false];constructor
 · intro h;refine⟨fun k hk=>?_,fun s hs=>?_⟩
   · have:=h k (Nat.zero_le _) (by omega);rw[zFt,Bool.and_eq_true]at this;exact this.2
   · obtain⟨k,hk,rfl⟩:=List.getElem_of_mem hs;have:=h k (Nat.zero_le _) (by omega);rw[zFt,Bool.and_eq_true,List.getD_eq_getElem?_getD,List.getElem?_eq_getElem hk,Option.getD_some]at this;simp[this.1]
 · rintro⟨h1,h2⟩ k _ hk;rw[zFt,Bool.and_eq_true];refine⟨?_,h1 k (by omega)⟩
   have:=h2 (cols.getD k ByteArray.empty) (by
    have hk':k<cols.length:=by omega
    rw[List.getD_eq_getElem?_getD,List.getElem?_eq_getElem hk'];simp)
   simpa using this
theorem zIw (cols:List ByteArray):∀(l:List ByteArray) (m:Int),zAK cols l m=true→m<cols.length→m+l.length<cols.length
 | [],m,_,h=>by simpa using h
 | x::r,m,h,hm=>by rw[zAK,Bool.and_eq_true,decide_eq_true_eq]at h;have hb:=xD cols x;have:=zIw cols r (xA cols x) h.2 hb.2;simp only[List.length_cons];omega
def zND (d:TableD):Bool:=xB d.name&&(xB d.glob&&(inB d.cols.length 1 5&&(zBg d.cols&&(!(d.cols.any fun s=>!xB s)&&zAK d.cols d.idx 0))))
theorem zMJ (d:TableD):zND d=xP d:=by
 unfold zND xP
 congr 1
 congr 1
 rw[zKL];by_cases h1:1≤d.cols.length
 · by_cases h5:d.cols.length≤5
   · have hi:inB d.cols.length 1 5=true:=by unfold inB;rw[decide_eq_true (show(1:Int)≤d.cols.length by omega),decide_eq_true (show(d.cols.length:Int)≤5 by omega)];rfl
     rw[hi,decide_eq_true h1,decide_eq_true h5];cases hx:zAK d.cols d.idx 0
     · simp
     · have:=zIw d.cols d.idx 0 hx (by omega);rw[decide_eq_true (show d.idx.length<d.cols.length by omega)];simp
   · have hi:inB d.cols.length 1 5=false:=by unfold inB;rw[decide_eq_false (show ¬(d.cols.length:Int)≤5 by omega)];simp
     rw[hi,decide_eq_false h5];simp
 · have hi:inB d.cols.length 1 5=false:=by unfold inB;rw[decide_eq_false (show ¬(1:Int)≤d.cols.length by omega)];rfl
   rw[hi,decide_eq_false h1];rfl
set_option maxRecDepth 100000 in
set_option maxHeartbeats 4000000 in
theorem zIQ (c0 c1 c2 c3:Value) (d:TableD) (w:World) (h:TableR w w.heap.size c0 c1 c2 c3 d) (hs:d.small) :
 Calls Tryz.prog 52 #[.agg #[c0,c1,c2,c3]] w fun e w'=>e=.returned (.bool (xP d))∧Below w.heap.size w w':=by
 obtain⟨rfl,rfl,⟨A2,n2,p2,rfl,s2,k2⟩,⟨A3,n3,p3,rfl,s3,k3⟩⟩:=h;obtain⟨f0,f1,⟨f2,f2'⟩,⟨f3,f3'⟩⟩:=hs;have hn2:n2≤1048576:=by rw[←s2.1];exact f2
 have hn3:n3≤1048576:=by rw[←s3.1];exact f3
 have HR:Hid (xP d=(xB d.name&&(xB d.glob&&(inB n2 1 5&&(zBg d.cols&&(!(d.cols.any fun s=>!xB s)&&zAK d.cols d.idx 0)))))):=by unfold Hid;rw[←zMJ];unfold zND;rw[s2.1]
 have HK0:=zh (fun W=>xS d.name W f0);have HK1:=zh (fun W=>xS d.glob W f1);have HKc:=zh (fun W=>zFp A2 n2 p2 W hn2);have HKw:=zh (fun W=>zBL (n2:Int) 1 5 W);have HKd:=zh (fun W (hW:Below w.heap.size w W)=>zDd A2 n2 p2 d.cols W (s2.later hW) hn2);have HKf:=zh (fun W (hW:Below w.heap.size w W)=>xV 126 #[] (fun s=>!xB s) A2 n2 p2 d.cols W (s2.later hW) hn2 (enters_of Tryz.func126 (by kernel_rfl) rfl) (fun s hs=>zHn s W (f2' s hs)));have HKi:=zh (fun W (hW:Below w.heap.size w W) (x:ByteArray)=>zFH A2 n2 p2 d.cols x W (s2.later hW) hn2);have HS3:=zh s3;have HL2:=zh s2.1;clear s2 s3 f2' f3' f2 f3 f0 f1;have HB0:=zh (Below.new w (.cells #[.string d.name,.string d.glob,.slice A2 n2 p2,.slice A3 n3 p3] 29));generalize xP d=R at *;generalize xB d.name=x0 at *;generalize xB d.glob=x1 at *;generalize inB n2 1 5=x2 at *;generalize zBg d.cols=x3 at *;generalize (d.cols.any fun s=>!xB s)=x4 at *;generalize d.name=nm at *;generalize d.glob=gl at *;generalize d.cols=cols at *;generalize d.idx=idx at *;go_enter Tryz.func52,Tryz.ntmps52;go_wp2_with fail;refine(HK0.out _).mono ?_;rintro e w1 ⟨rfl,rfl⟩;cases x0
 · have HE:Hid (R=false):=by unfold Hid;rw[HR.out];rfl
   go_wp2_with fail;go_ret;exact⟨zA0 HE.out.symm,HB0.out⟩
 go_wp2_with fail;refine(HK1.out _).mono ?_;rintro e w1 ⟨rfl,rfl⟩;cases x1
 · have HE:Hid (R=false):=by unfold Hid;rw[HR.out];rfl
   go_wp2_with fail;go_ret;exact⟨zA0 HE.out.symm,HB0.out⟩
 go_wp2_with fail;refine(HKc.out _).mono ?_;rintro e w1 ⟨rfl,rfl⟩;go_wp2_with fail;refine(HKw.out _).mono ?_;rintro e w1 ⟨rfl,rfl⟩;cases x2
 · have HE:Hid (R=false):=by unfold Hid;rw[HR.out];rfl
   go_wp2_with fail;go_ret;exact⟨zA0 HE.out.symm,HB0.out⟩
 go_wp2_with fail;refine(HKd.out _ HB0.out).mono ?_;rintro e w1 ⟨rfl,hb1⟩;have px:=(Blk.later (heap_alloc_new w _) hb1 (by simp)).cell;have hz1:w.heap.size<w1.heap.size:=by have:=hb1.size;simp at this;omega
 have HB1:=zh (HB0.out.later hb1);clear hb1;cases x3
 · have HE:Hid (R=false):=by unfold Hid;rw[HR.out];rfl
   go_wp2_with fail;go_ret;exact⟨zA0 HE.out.symm,HB1.out⟩
 go_wp2_with fail;refine(HKf.out _ HB1.out).mono ?_;rintro e w2 ⟨rfl,rfl⟩;cases x4
 case true =>
  have HE:Hid (R=false):=by unfold Hid;rw[HR.out];rfl
  go_wp2_with fail;go_ret;exact⟨zA0 HE.out.symm,HB1.out⟩
 have HE:Hid (R=zAK cols (idx.drop 0) 0):=by unfold Hid;rw[HR.out];rfl
 go_wp2_with fail;go_loopw [3,36] (fun l i wr=>∃(j:Nat) (m:Int),j≤n3∧i=.int .i64 j∧l=.int .i64 m∧0≤m∧m≤1048576∧wr=w1∧Hid (R=zAK cols (idx.drop j) m)) (fun _ i _=>n3-(intOf i).toNat);case atStart=>exact⟨0,0,Nat.zero_le _,rfl,rfl,by omega,by omega,rfl,HE.out⟩
 case round =>
  obtain⟨j,m,hj,rfl,rfl,hm0,hm1,rfl,hS2⟩:=hrel;by_cases hltj:j<n3
  · obtain⟨b,o,rfl,hb,hcell⟩:=(HS3.out.later HB1.out).2 (by omega);have hck:=hcell j hltj;clear hcell;have hl:j<idx.length:=by rw[HS3.out.1];exact hltj
    have HSt:=zh (zGx cols idx j m hl);have HKp:=zh (HKi.out _ HB1.out (idx.getD j ByteArray.empty));have hbd:=xD cols (idx.getD j ByteArray.empty);rw[HL2.out]at hbd;clear hl;generalize idx.getD j ByteArray.empty=s at *;generalize xA cols s=y at *;go_wp2_with fail;refine HKp.out.mono ?_;rintro e w2 ⟨rfl,rfl⟩;by_cases hy:y≤m
    · have HE3:Hid (R=false):=by unfold Hid;rw[hS2.out,HSt.out,decide_eq_false (show ¬m<y by omega)];rfl
      go_wp2_with fail;go_ret;exact⟨zA0 HE3.out.symm,HB1.out⟩
    · have HE3:Hid (R=zAK cols (idx.drop (j+1)) y):=by unfold Hid;rw[hS2.out,HSt.out,decide_eq_true (show m<y by omega)];rfl
      go_wp2_with fail;go_roundw;case rel=>exact⟨j+1,y,by omega,by go_num,rfl,by omega,by omega,(by first | rfl | trivial),HE3.out⟩
      case measure=>simp[intOf];omega
  · have HE3:Hid (R=true):=by unfold Hid;rw[hS2.out,List.drop_of_length_le (by rw[HS3.out.1];omega)];rfl
    go_wp2_with fail;go_ret;exact⟨zA0 HE3.out.symm,HB1.out⟩
end Go.Proofs.YtfpcjhajjejpdaaGreatDoor
