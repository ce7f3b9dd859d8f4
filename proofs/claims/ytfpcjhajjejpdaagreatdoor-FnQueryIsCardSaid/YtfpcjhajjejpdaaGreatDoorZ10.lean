import Derived.Test.YtfpcjhajjejpdaaGreatDoorZ00
import Derived.Test.YtfpcjhajjejpdaaGreatDoorZ09
import Derived.Test.YtfpcjhajjejpdaaGreatDoorZ08
import Derived.Lib.Join
import Derived.Lib.SplitLaws
set_option maxHeartbeats 4000000
open Go.Lib renaming hid → zh
namespace Go.Proofs.YtfpcjhajjejpdaaGreatDoor
open Go.RowKit
def zT0 (c:UInt8):List UInt8→List (List UInt8)
 | []=>[[]]
 | b::l=>if b=c then []::zT0 c l else match zT0 c l with
   | []=>[[b]]
   | h::t=>(b::h)::t
theorem zFN (c:UInt8):∀l,zT0 c l≠[]
 | []=>by simp[zT0]
 | b::l=>by
   unfold zT0;split
   · simp
   · split <;> simp
theorem zFt (c:UInt8):∀(a:List UInt8),c ∉ a→zT0 c a=[a]
 | [],_=>rfl
 | b::l,h=>by have ih:=zFt c l (fun e=>h (List.mem_cons_of_mem _ e));unfold zT0;rw[if_neg (fun e=>h (by rw[e];exact List.mem_cons_self)),ih]
theorem zFs (c:UInt8):∀(a b:List UInt8),c ∉ a→zT0 c (a++c::b)=a::zT0 c b
 | [],b,_=>by simp[zT0]
 | x::a,b,h=>by
   have ih:=zFs c a b (fun e=>h (List.mem_cons_of_mem _ e));rw[List.cons_append]
   conv=>lhs;unfold zT0
   rw[if_neg (fun e=>h (by rw[e];exact List.mem_cons_self)),ih]
theorem zFc (c:UInt8):∀l,Lib.split l [c]=zT0 c l
 | []=>by simp[Lib.split,Lib.count_miss (s:=[]) (sub:=[c]) (by simp[Lib.index]),Lib.splitK,zT0]
 | b::l=>by
   have ih:=zFc c l;unfold Lib.split at ih ⊢;by_cases hb:b=c
   · subst hb;rw[Lib.count_cons_eq,Nat.add_comm,Lib.splitK];have hix:Lib.index (b::l) [b]=0:=by rw[Lib.index];simp[List.isPrefixOf]
     rw[hix];simp only[show((0:Int)==-1)=false from rfl,Bool.false_eq_true,if_false];unfold zT0;rw[if_pos rfl,←ih];simp
   · rw[Lib.count_cons_ne b c l hb];have hp:([c]:List UInt8).isPrefixOf (b::l)=false:=by simp[List.isPrefixOf,Ne.symm hb]
     have hix:Lib.index (b::l) [c]=if Lib.index l [c]==-1 then -1 else Lib.index l [c]+1:=by rw[Lib.index,hp];simp
     unfold zT0;rw[if_neg hb];by_cases hm:Lib.index l [c]=-1
     · rw[Lib.count_miss hm]at ih ⊢;rw[Lib.splitK]at ih ⊢;rw[←ih]
     · have hge:=Lib.index_ge l [c];obtain⟨j,hj⟩:∃j:Nat,Lib.index l [c]=j:=⟨(Lib.index l [c]).toNat,by omega⟩;rw[Lib.count_hit (by simp) hj,Nat.add_comm]at ih ⊢;rw[Lib.splitK]at ih ⊢;rw[hix,hj];rw[hj]at ih;have h1:((j:Int)==-1)=false:=by rw[beq_eq_false_iff_ne];omega
       have h2:((j:Int)+1==-1)=false:=by rw[beq_eq_false_iff_ne];omega
       simp only[h1,h2,Bool.false_eq_true,if_false]at ih ⊢;rw[←ih];have h3:((j:Int)+1).toNat=j+1:=by omega
       simp[h3]
theorem yR (x y:List UInt8) (r:List (List UInt8)) (s:List UInt8):Lib.join (x::y::r) s=x++s++Lib.join (y::r) s:=by
 simp[Lib.join,List.intercalate]
theorem zAs (x s:List UInt8):Lib.join [x] s=x:=by simp[Lib.join,List.intercalate]
theorem zGS (c:UInt8):∀l,Lib.join (zT0 c l) [c]=l
 | []=>by simp[zT0,zAs]
 | b::l=>by
   have ih:=zGS c l;unfold zT0;by_cases hb:b=c
   · subst hb;rw[if_pos rfl]
     match h:zT0 b l,ih with
     | [],_=>exact absurd h (zFN b l)
     | x::r,ih=>rw[yR,ih];rfl
   · rw[if_neg hb]
     match h:zT0 c l,ih with
     | [],_=>exact absurd h (zFN c l)
     | [x],ih=>rw[zAs]at ih;simp only[zAs];rw[ih]
     | x::y::r,ih=>rw[yR]at ih;simp only[yR];rw[←ih];simp
def uZ (c:UInt8) (s:ByteArray):List ByteArray:=(zT0 c s.data.toList).map fun l=>⟨l.toArray⟩
theorem zLP {l:List ByteArray} {k:List (List UInt8)} (h:l.map (·.data.toList)=k):l=k.map fun x=>⟨x.toArray⟩:=by
 subst h;rw[List.map_map]
 have:((fun x:List UInt8=>(⟨x.toArray⟩:ByteArray)) ∘ fun x:ByteArray=>x.data.toList)=id:=by
  funext x
  cases x;rfl
 rw[this,List.map_id]
theorem zDI (c:UInt8) (s:ByteArray):Lib.splitB ⟨#[c]⟩ 0 (Lib.countB s ⟨#[c]⟩) s=uZ c s:=by
 apply zLP;rw[Lib.splitB_data];exact zFc c s.data.toList
theorem zJM (c:UInt8) (s:ByteArray):Lib.join ((uZ c s).map (·.data.toList)) [c]=s.data.toList:=by
 unfold uZ;rw[List.map_map]
 have:((fun x:ByteArray=>x.data.toList) ∘ fun l:List UInt8=>(⟨l.toArray⟩:ByteArray))=id:=by
  funext x
  rfl
 rw[this,List.map_id,zGS]
theorem zHh (c:UInt8):∀l,(zT0 c l).length≤l.length+1
 | []=>by simp[zT0]
 | b::l=>by
   have ih:=zHh c l;unfold zT0;split
   · simpa using ih
   · split
     · simp
     · rename_i h t e;rw[e]at ih;simp at ih ⊢;omega
theorem zEl (c:UInt8):∀l,∀x∈zT0 c l,x.length≤l.length
 | [],x,hx=>by simp[zT0]at hx;subst hx;simp
 | b::l,x,hx=>by
   have ih:=zEl c l;unfold zT0 at hx;split at hx
   · simp only[List.mem_cons]at hx;rcases hx with rfl | hx
     · simp
     · have:=ih x hx;simp;omega
   · split at hx
     · simp at hx;subst hx;simp
     · rename_i h t e;rw[e]at ih;simp only[List.mem_cons]at hx;rcases hx with rfl | hx
       · have:=ih h (by simp);simpa using this
       · have:=ih x (by simp[hx]);simp;omega
end Go.Proofs.YtfpcjhajjejpdaaGreatDoor
namespace Go.Proofs.YtfpcjhajjejpdaaGreatDoor
open Go.RowKit
theorem zFr (s:ByteArray) (f k:Nat):s.extract f k=⟨((s.data.toList.drop f).take (k-f)).toArray⟩:=by
 have h:(s.extract f k).data.toList=(s.data.toList.drop f).take (k-f):=by rw[ByteArray.data_extract,Array.toList_extract,List.extract_eq_take_drop]
 apply uR;rw[yD,h,yD]
structure CutI (c:UInt8) (l:List UInt8) (k f:Nat) (done:List ByteArray):Prop where
 fk:f≤k
 kl:k≤l.length
 eq:(zT0 c l).map (fun x=>(⟨x.toArray⟩:ByteArray))=done++(zT0 c (l.drop f)).map (fun x=>⟨x.toArray⟩)
 free:c ∉ (l.drop f).take (k-f)
theorem CutI.start (c:UInt8) (l:List UInt8):CutI c l 0 0 []:=⟨Nat.le_refl _,Nat.zero_le _,by simp,by simp⟩
theorem CutI.skip {c:UInt8} {l:List UInt8} {k f:Nat} {done:List ByteArray} (h:CutI c l k f done) (hk:k<l.length) (hc:l[k]≠c):CutI c l (k+1) f done:=by
 have h1:=h.fk;refine⟨by omega,by omega,h.eq,?_⟩;rw[show k+1-f=(k-f)+1 by omega,List.take_succ_eq_append_getElem (by rw[List.length_drop];omega)];rw[List.mem_append,List.mem_singleton];rintro(h2 | h2)
 · exact h.free h2
 · apply hc;rw[List.getElem_drop]at h2;rw[h2]
   congr 1
   omega
theorem CutI.hit {l:List UInt8} {s:ByteArray} {k f:Nat} {done:List ByteArray} {c:UInt8} (hs:s.data.toList=l) (h:CutI c l k f done) (hk:k<l.length) (hc:l[k]=c):CutI c l (k+1) (k+1) (done++[s.extract f k]):=by
 have h1:=h.fk;refine⟨Nat.le_refl _,by omega,?_,by simp⟩;have hd:l.drop f=(l.drop f).take (k-f)++c::l.drop (k+1):=by have:=List.take_append_drop (k-f) (l.drop f);rw[List.drop_drop,show f+(k-f)=k by omega,List.drop_eq_getElem_cons hk,hc]at this;exact this.symm
 rw[h.eq,hd,zFs _ _ _ h.free,List.map_cons,List.append_assoc,List.singleton_append,zFr,hs]
theorem CutI.last {l:List UInt8} {s:ByteArray} {f:Nat} {done:List ByteArray} {c:UInt8} (hs:s.data.toList=l) (h:CutI c l l.length f done):uZ c s=done++[s.extract f l.length]:=by
 have h1:=h.fk;unfold uZ;rw[hs,h.eq];have hf:=h.free;rw[List.take_of_length_le (by rw[List.length_drop];omega)]at hf;rw[zFt _ _ hf,zFr,hs,List.take_of_length_le (by rw[List.length_drop];omega)];rfl
set_option maxRecDepth 100000 in
theorem zIh (s:ByteArray) (w:World) (hs:s.size≤1048576) :
 Calls Tryz.prog 174 #[.string s] w fun e w'=>∃v,e=.returned v∧Own.SubO w' w.heap.size v (uZ 94 s)∧Below w.heap.size w w':=by
 obtain⟨i0,hi,hz0,hz1,hz2⟩:=info_parts zAu;have hsz:s.data.toList.length=s.size:=(Lib.size_eq s).symm;have HSZ:=zh hsz;clear hsz;go_enter Tryz.func174,Tryz.ntmps174;go_wp2_with fail;go_loopw [3,4,5] (fun v f i wr=>∃(k fr:Nat) (done:List ByteArray),i=.int .i64 k∧f=.int .i64 fr∧fr≤k∧k≤s.size+1∧done.length≤k∧wr.ownsRow w.heap.size 9 1 v done.length (done.map Value.string)∧Below w.heap.size w wr∧Hid ((k≤s.size∧CutI 94 s.data.toList k fr done)∨(k=s.size+1∧uZ 94 s=done))) (fun _ _ i _=>s.size+1-(intOf i).toNat);case atStart=>refine⟨0,0,[],rfl,rfl,Nat.le_refl _,Nat.zero_le _,Nat.le_refl _,?_,Below.new _ _,.inl ⟨Nat.zero_le _,CutI.start _ _⟩⟩;simpa using World.ownsRow_lit (e:=9) (size:=1) w #[] 0 (Nat.le_refl _) (by omega) rfl
 case round =>
  obtain⟨k,f,done,rfl,rfl,hfk,hk,hdl,hown,hb,hI⟩:=hrel;have HO:=zh hown;have HB:=zh hb;clear hown hb;have hrow:Hid (∀o,(wr.alloc o).ownsRow w.heap.size 9 1 u3 done.length (done.map Value.string)):=fun o=>Own.own_later HO.out (Below.new _ _);have hbz:=HB.out.size;by_cases hle:k≤s.size
  · have HC:Hid (CutI 94 s.data.toList k f done):=by
     rcases hI.out with h | h
     · exact h.2
     · exact absurd h.1 (by omega)
    clear hI;by_cases hlt:k<s.size
    · have hkl:k<s.data.toList.length:=by rw[HSZ.out];exact hlt
      have HG:Hid (s.data.toList[k]=s[k]):=rfl;by_cases h3:s[k].toNat=94
      · have HN:Hid (CutI 94 s.data.toList (k+1) (k+1) (done++[s.extract f k])):=HC.out.hit rfl hkl (by rw[HG.out];exact UInt8.toNat_inj.1 h3);have hb3:((s[k].toNat:Int)==94)=true:=by rw[beq_iff_eq];omega
        have hb4:(s[k].toNat==94)=true:=by rw[beq_iff_eq];omega
        have hne:((k:Int)==(s.size:Int))=false:=by rw[beq_eq_false_iff_ne];omega
        have hne2:(k==s.size)=false:=by rw[beq_eq_false_iff_ne];omega
        clear h3;go_wp2_with (at_builtin;refine wpList_append_own _ rfl (.tmp 23) (.tmp 28) 27 rfl w.heap.size 9 i0 _ 1 16 Tryz.underlying27 hi hz0 hz1 hz2 rfl (by decide) _ done.length _ rfl (hrow.out _) ⟨_,0,none⟩ 1 1 [.string (s.extract f k)] rfl rfl ?c1 ?c2 ?c3 ?c4 ?c5 ?_);all_goals try (first | exact wD _ #[.string (s.extract f k)] _ _ (by simp) | (simp[Value.oneCell'];done) | (unfold maxLen;omega) | omega | (simp;omega))
        intro v1 w2 hown1 hg1 _;have HO3:Hid (w2.ownsRow w.heap.size 9 1 v1 (done++[s.extract f k]).length ((done++[s.extract f k]).map Value.string)):=by unfold Hid;rw[List.length_append,List.length_singleton,List.map_append];exact hown1
        have HB3:=zh (xK (HB.out.later (Below.new wr _)) (hrow.out _) (Nat.le_refl _) hg1);clear hown1 hg1;go_wp2_with fail;go_roundw;case rel=>exact⟨k+1,k+1,_,by go_num,by go_num,by omega,by omega,(by first | (simp;done) | (simp;omega)),HO3.out,HB3.out,.inl ⟨by omega,HN.out⟩⟩
        case measure=>simp[intOf];omega
      · have HN:Hid (CutI 94 s.data.toList (k+1) f done):=HC.out.skip hkl (by rw[HG.out];intro e;exact h3 (by rw[e];rfl));have hb3:((s[k].toNat:Int)==94)=false:=by rw[beq_eq_false_iff_ne];omega
        have hb4:(s[k].toNat==94)=false:=by rw[beq_eq_false_iff_ne];omega
        have hne:((k:Int)==(s.size:Int))=false:=by rw[beq_eq_false_iff_ne];omega
        have hne2:(k==s.size)=false:=by rw[beq_eq_false_iff_ne];omega
        clear h3;go_wp2_with fail;go_roundw;case rel=>exact⟨k+1,f,done,by go_num,rfl,by omega,by omega,by omega,HO.out,HB.out,.inl ⟨by omega,HN.out⟩⟩
        case measure=>simp[intOf];omega
    · obtain rfl:k=s.size:=by omega
      have HN:Hid (uZ 94 s=done++[s.extract f s.size]):=by
       have h:=HC.out;have e:=HSZ.out;have h2:CutI 94 s.data.toList s.data.toList.length f done:=by rw[e];exact h
       have h3:=h2.last rfl;rw[e]at h3;exact h3
      go_wp2_with (at_builtin;refine wpList_append_own _ rfl (.tmp 23) (.tmp 28) 27 rfl w.heap.size 9 i0 _ 1 16 Tryz.underlying27 hi hz0 hz1 hz2 rfl (by decide) _ done.length _ rfl (hrow.out _) ⟨_,0,none⟩ 1 1 [.string (s.extract f s.size)] rfl rfl ?d1 ?d2 ?d3 ?d4 ?d5 ?_);all_goals try (first | exact wD _ #[.string (s.extract f s.size)] _ _ (by simp) | (simp[Value.oneCell'];done) | (unfold maxLen;omega) | omega | (simp;omega))
      intro v1 w2 hown1 hg1 _;have HO3:Hid (w2.ownsRow w.heap.size 9 1 v1 (done++[s.extract f s.size]).length ((done++[s.extract f s.size]).map Value.string)):=by unfold Hid;rw[List.length_append,List.length_singleton,List.map_append];exact hown1
      have HB3:=zh (xK (HB.out.later (Below.new wr _)) (hrow.out _) (Nat.le_refl _) hg1);clear hown1 hg1;go_wp2_with fail;go_roundw;case rel=>exact⟨s.size+1,s.size+1,_,by go_num,by go_num,by omega,by omega,(by first | (simp;done) | (simp;omega)),HO3.out,HB3.out,.inr ⟨rfl,HN.out⟩⟩
      case measure=>first | (simp[intOf];done) | (simp[intOf];omega)
  · have HE:Hid (uZ 94 s=done):=by
     rcases hI.out with h | h
     · exact absurd h.1 hle
     · exact h.2
    go_wp2_with fail;go_ret;refine⟨_,rfl,?_,HB.out⟩;rw[HE.out];exact HO.out
end Go.Proofs.YtfpcjhajjejpdaaGreatDoor
namespace Go.Proofs.YtfpcjhajjejpdaaGreatDoor
open Go.RowKit
theorem zAD {P:Program} {f:FuncId} {args:Array Value} {w:World} {n:Nat} {v:Value}
 (h:Calls P f args (w.drewN n) fun e w'=>e=.returned v∧w.drewN n=w'):Calls P f args (w.drewN n) fun e w''=>e=.returned v∧∃m,w''=w.drewN m :=
 h.mono fun _ _ ⟨he,hm⟩=>⟨he,n,hm.symm⟩
theorem zE0 {P:Program} {f:FuncId} {args:Array Value} {w:World} {q n:Nat} {v:Value}
 (h:Calls P f args (w.drewN (q+n)) fun e w'=>e=.returned v∧w.drewN (q+n)=w'):Calls P f args (w.drewN (q+n)) fun e w''=>e=.returned v∧∃m,w''=w.drewN (q+m) :=
 h.mono fun _ _ ⟨he,hm⟩=>⟨he,n,hm.symm⟩
def xI (cols:List ByteArray) (k:Nat):Bool:=zB0 (cols.getD k ByteArray.empty)&&decide (xA (cols.take k) (cols.getD k ByteArray.empty)<0)
def zAg (cols:List ByteArray):List ByteArray→Int→Bool
 | [],_=>true
 | x::r,last=>decide (last<xA cols x)&&zAg cols r (xA cols x)
theorem zFn (cols l:List ByteArray) (k:Nat) (last:Int) (h:k<l.length):zAg cols (l.drop k) last=(decide (last<xA cols (l.getD k ByteArray.empty))&&zAg cols (l.drop (k+1)) (xA cols (l.getD k ByteArray.empty))):=by
 rw[List.drop_eq_getElem_cons h,zAg,List.getD_eq_getElem?_getD,List.getElem?_eq_getElem h];rfl
def wM (d:TableD):Bool:=zB0 d.name&&(zB0 d.glob&&(decide (1≤d.cols.length)&&(decide (d.cols.length≤5)&&(decide (d.idx.length<d.cols.length)&&(yC (xI d.cols) 0 d.cols.length&&zAg d.cols d.idx 0)))))
set_option maxRecDepth 100000 in
theorem zCE (c0 c1 c2 c3:Value) (d:TableD) (w:World) (h:TableR w w.heap.size c0 c1 c2 c3 d) (hs:d.small) :
 Calls Tryz.prog 58 #[.agg #[c0,c1,c2,c3]] w fun e w'=>e=.returned (.bool (wM d))∧Below w.heap.size w w':=by
 obtain⟨rfl,rfl,⟨A2,n2,p2,rfl,s2,k2⟩,⟨A3,n3,p3,rfl,s3,k3⟩⟩:=h;obtain⟨f0,f1,⟨f2,f2'⟩,⟨f3,f3'⟩⟩:=hs;have hn2:n2≤1048576:=by rw[←s2.1];exact f2
 have hn3:n3≤1048576:=by rw[←s3.1];exact f3
 have hR:wM d=(zB0 d.name&&(zB0 d.glob&&(decide (1≤n2)&&(decide (n2≤5)&&(decide (n3<n2)&&(yC (xI d.cols) 0 n2&&zAg d.cols d.idx 0)))))):=by unfold wM;rw[s2.1,s3.1]
 have HR:=zh hR;clear hR;have HK0:=zh (fun W=>vD d.name W f0);have HK1:=zh (fun W=>vD d.glob W f1);have HS2:=zh s2;have HS3:=zh s3;have HZ2:=zh f2';clear s2 s3 f2' f3' f2 f3 f0 f1;have HB0:=zh (Below.new w (.cells #[.string d.name,.string d.glob,.slice A2 n2 p2,.slice A3 n3 p3] 29));have HBq:=zh (fun q=>vA (Below.new w (.cells #[.string d.name,.string d.glob,.slice A2 n2 p2,.slice A3 n3 p3] 29)) q);generalize wM d=R at *;generalize zB0 d.name=x0 at *;generalize zB0 d.glob=x1 at *;generalize d.name=nm at *;generalize d.glob=gl at *;generalize d.cols=cols at *;generalize d.idx=idx at *;go_enter Tryz.func58,Tryz.ntmps58;go_wp2_with fail;refine(HK0.out _).mono ?_;rintro e w1 ⟨rfl,rfl⟩;cases x0
 · have HE:Hid (R=false):=by unfold Hid;rw[HR.out];rfl
   go_wp2_with fail;go_ret;exact⟨zA0 HE.out.symm,HB0.out⟩
 go_wp2_with fail;refine(HK1.out _).mono ?_;rintro e w1 ⟨rfl,rfl⟩;cases x1
 · have HE:Hid (R=false):=by unfold Hid;rw[HR.out];rfl
   go_wp2_with fail;go_ret;exact⟨zA0 HE.out.symm,HB0.out⟩
 by_cases a1:n2<1
 · have HE:Hid (R=false):=by unfold Hid;rw[HR.out,decide_eq_false (show ¬1≤n2 by omega)];rfl
   go_wp2_with fail;go_ret;exact⟨zA0 HE.out.symm,HB0.out⟩
 by_cases a2:5<n2
 · have HE:Hid (R=false):=by unfold Hid;rw[HR.out,decide_eq_false (show ¬n2≤5 by omega)];simp
   go_wp2_with fail;go_ret;exact⟨zA0 HE.out.symm,HB0.out⟩
 by_cases a3:n2≤n3
 · have HE:Hid (R=false):=by unfold Hid;rw[HR.out,decide_eq_false (show ¬n3<n2 by omega)];simp
   go_wp2_with fail;go_ret;exact⟨zA0 HE.out.symm,HB0.out⟩
 have HE:Hid (R=(yC (xI cols) 0 (n2-0)&&zAg cols idx 0)):=by unfold Hid;rw[HR.out,decide_eq_true (show 1≤n2 by omega),decide_eq_true (show n2≤5 by omega),decide_eq_true (show n3<n2 by omega)];rfl
 clear HR;go_wp2_with fail;go_loopw [3] (fun i wr=>∃(k q:Nat),k≤n2∧i=.int .i64 k∧wr=(w.alloc (.cells #[.string nm,.string gl,.slice A2 n2 p2,.slice A3 n3 p3] 29)).drewN q∧Hid (R=(yC (xI cols) k (n2-k)&&zAg cols idx 0))) (fun i _=>n2-(intOf i).toNat);case atStart=>exact⟨0,0,Nat.zero_le _,rfl,rfl,HE.out⟩
 case round =>
  obtain⟨k,q,hk,rfl,rfl,hS⟩:=hrel;by_cases hlt:k<n2
  · obtain⟨b,o,rfl,hb,hcell⟩:=HS2.out.2 (by omega);have hck:=hcell k hlt;clear hcell;have hl:k<cols.length:=by rw[HS2.out.1];exact hlt
    have HSt:=zh (vP (xI cols) k n2 hlt);have HC:Hid (xI cols k=(zB0 (cols.getD k ByteArray.empty)&&decide (xA (cols.take k) (cols.getD k ByteArray.empty)<0))):=rfl;have HKn:=zh (fun W=>vD (cols.getD k ByteArray.empty) W (zAi HZ2.out k hl));have HKp:=zh (fun W (hW:Below w.heap.size w W)=>uF (some ⟨b,o,none⟩) k p2 (cols.take k) (cols.getD k ByteArray.empty) W ((HS2.out.take k (by omega)).later hW) (by omega));have hbd:=xD (cols.take k) (cols.getD k ByteArray.empty);have hlk:(cols.take k).length=k:=by rw[List.length_take];omega
    rw[hlk]at hbd;have i1:(k:Int)<(n2:Int):=by omega
    have i2:(k:Int)≤(n2:Int):=by omega
    have i3:(k:Int)≤(p2:Int):=by omega
    have i4:(0:Int)≤(k:Int):=by omega
    clear hl hlk;generalize cols.getD k ByteArray.empty=s at *;generalize xA (cols.take k) s=y at *;generalize zB0 s=x at *;cases x
    · have HE2:Hid (R=false):=by unfold Hid;rw[hS.out,HSt.out,HC.out];rfl
      go_wp2_with fail
      go_quiet (first | (go_at_call 131;refine zE0 (HKn.out _)))
      go_wp2_with fail;go_ret;exact⟨zA0 HE2.out.symm,by first | exact HBq.out _ | exact vA (HBq.out _) _⟩
    · by_cases hy:0≤y
      · have HE2:Hid (R=false):=by unfold Hid;rw[hS.out,HSt.out,HC.out,decide_eq_false (show ¬y<0 by omega)];rfl
        have hd:decide (0≤y)=true:=decide_eq_true hy;go_wp2_with fail
        go_quiet (first | (go_at_call 131;refine zE0 (HKn.out _)) | (go_at_call 90;refine zE0 (HKp.out _ (by exact HBq.out _))))
        go_wp2_with fail;go_ret;exact⟨zA0 HE2.out.symm,by first | exact HBq.out _ | exact vA (HBq.out _) _⟩
      · have HE2:Hid (R=(yC (xI cols) (k+1) (n2-(k+1))&&zAg cols idx 0)):=by unfold Hid;rw[hS.out,HSt.out,HC.out,decide_eq_true (show y<0 by omega)];rfl
        have hd:decide (0≤y)=false:=decide_eq_false hy;go_wp2_with fail
        go_quiet (first | (go_at_call 131;refine zE0 (HKn.out _)) | (go_at_call 90;refine zE0 (HKp.out _ (by exact HBq.out _))))
        go_wp2_with fail;go_roundw;case rel=>exact⟨k+1,_,by omega,by go_num,rfl,HE2.out⟩
        case measure=>simp[intOf];omega
  · have HE2:Hid (R=zAg cols (idx.drop 0) 0):=by unfold Hid;rw[hS.out,zS0 _ _ _ hlt];rfl
    clear hS HE;obtain⟨q0,hq0⟩:∃q0,q0=q:=⟨_,rfl⟩;go_wp2_with fail;go_loopw [5,4] (fun i last wr=>∃(j q:Nat) (m:Int),j≤n3∧i=.int .i64 j∧last=.int .i64 m∧0≤m∧m≤5∧wr=(w.alloc (.cells #[.string nm,.string gl,.slice A2 n2 p2,.slice A3 n3 p3] 29)).drewN q∧Hid (R=zAg cols (idx.drop j) m)) (fun i _ _=>n3-(intOf i).toNat);case atStart=>exact⟨0,_,0,Nat.zero_le _,rfl,rfl,by omega,by omega,rfl,HE2.out⟩
    case round =>
     obtain⟨j,q2,m,hj,rfl,rfl,hm0,hm1,rfl,hS2⟩:=hrel;by_cases hltj:j<n3
     · obtain⟨b,o,rfl,hb,hcell⟩:=HS3.out.2 (by omega);have hck:=hcell j hltj;clear hcell;have hl:j<idx.length:=by rw[HS3.out.1];exact hltj
       have HSt:=zh (zFn cols idx j m hl);have HKp:=zh (fun W (hW:Below w.heap.size w W)=>uF A2 n2 p2 cols (idx.getD j ByteArray.empty) W (HS2.out.later hW) hn2);have hbd:=xD cols (idx.getD j ByteArray.empty);rw[HS2.out.1]at hbd;have i1:(j:Int)<(n3:Int):=by omega
       clear hl;generalize idx.getD j ByteArray.empty=s at *;generalize xA cols s=y at *;go_wp2_with fail
       go_quiet (first | (go_at_call 90;refine zE0 (HKp.out _ (by exact HBq.out _))))
       by_cases hy:y≤m
       · have HE3:Hid (R=false):=by unfold Hid;rw[hS2.out,HSt.out,decide_eq_false (show ¬m<y by omega)];rfl
         go_wp2_with fail;go_ret;exact⟨zA0 HE3.out.symm,by first | exact HBq.out _ | exact vA (HBq.out _) _⟩
       · have HE3:Hid (R=zAg cols (idx.drop (j+1)) y):=by unfold Hid;rw[hS2.out,HSt.out,decide_eq_true (show m<y by omega)];rfl
         go_wp2_with fail;go_roundw;case rel=>exact⟨j+1,_,y,by omega,by go_num,rfl,by omega,by omega,rfl,HE3.out⟩
         case measure=>simp[intOf];omega
     · have HE3:Hid (R=true):=by unfold Hid;rw[hS2.out,List.drop_of_length_le (by rw[HS3.out.1];omega)];rfl
       go_wp2_with fail;go_ret;exact⟨zA0 HE3.out.symm,HBq.out _⟩
end Go.Proofs.YtfpcjhajjejpdaaGreatDoor
