import Derived.Test.YtgmaamnofhmecaaGreatDoorV00
import Derived.Test.YtgmaamnofhmecaaGreatDoorV10
import Derived.Test.YtgmaamnofhmecaaGreatDoorV11
import Derived.Test.YtgmaamnofhmecaaGreatDoorV01
import Derived.Lib.Join
import Derived.Lib.SplitLaws
set_option maxHeartbeats 2000000
open Go.Lib renaming hid → zh
namespace Go.Proofs.YtgmaamnofhmecaaGreatDoor
open Go.RowKit
def uS (c:UInt8):List UInt8→List (List UInt8)
 | []=>[[]]
 | b::l=>if b=c then []::uS c l else match uS c l with
   | []=>[[b]]
   | h::t=>(b::h)::t
theorem zGc (c:UInt8):∀l,uS c l≠[]
 | []=>by simp[uS]
 | b::l=>by
   unfold uS;split
   · simp
   · split <;> simp
theorem zDl (c:UInt8):∀(a:List UInt8),c ∉ a→uS c a=[a]
 | [],_=>rfl
 | b::l,h=>by have ih:=zDl c l (fun e=>h (List.mem_cons_of_mem _ e));unfold uS;rw[if_neg (fun e=>h (by rw[e];exact List.mem_cons_self)),ih]
theorem zDk (c:UInt8):∀(a b:List UInt8),c ∉ a→uS c (a++c::b)=a::uS c b
 | [],b,_=>by simp[uS]
 | x::a,b,h=>by
   have ih:=zDk c a b (fun e=>h (List.mem_cons_of_mem _ e));rw[List.cons_append]
   conv=>lhs;unfold uS
   rw[if_neg (fun e=>h (by rw[e];exact List.mem_cons_self)),ih]
theorem zFk (c:UInt8):∀l,Lib.split l [c]=uS c l
 | []=>by simp[Lib.split,Lib.count_miss (s:=[]) (sub:=[c]) (by simp[Lib.index]),Lib.splitK,uS]
 | b::l=>by
   have ih:=zFk c l;unfold Lib.split at ih ⊢;by_cases hb:b=c
   · subst hb;rw[Lib.count_cons_eq,Nat.add_comm,Lib.splitK];have hix:Lib.index (b::l) [b]=0:=by rw[Lib.index];simp[List.isPrefixOf]
     rw[hix];simp only[show((0:Int)==-1)=false from rfl,Bool.false_eq_true,if_false];unfold uS;rw[if_pos rfl,←ih];simp
   · rw[Lib.count_cons_ne b c l hb];have hp:([c]:List UInt8).isPrefixOf (b::l)=false:=by simp[List.isPrefixOf,Ne.symm hb]
     have hix:Lib.index (b::l) [c]=if Lib.index l [c]==-1 then -1 else Lib.index l [c]+1:=by rw[Lib.index,hp];simp
     unfold uS;rw[if_neg hb];by_cases hm:Lib.index l [c]=-1
     · rw[Lib.count_miss hm]at ih ⊢;rw[Lib.splitK]at ih ⊢;rw[←ih]
     · have hge:=Lib.index_ge l [c];obtain⟨j,hj⟩:∃j:Nat,Lib.index l [c]=j:=⟨(Lib.index l [c]).toNat,by omega⟩;rw[Lib.count_hit (by simp) hj,Nat.add_comm]at ih ⊢;rw[Lib.splitK]at ih ⊢;rw[hix,hj];rw[hj]at ih;have h1:((j:Int)==-1)=false:=by rw[beq_eq_false_iff_ne];omega
       have h2:((j:Int)+1==-1)=false:=by rw[beq_eq_false_iff_ne];omega
       simp only[h1,h2,Bool.false_eq_true,if_false]at ih ⊢;rw[←ih];have h3:((j:Int)+1).toNat=j+1:=by omega
       simp[h3]
theorem yO (x y:List UInt8) (r:List (List UInt8)) (s:List UInt8):Lib.join (x::y::r) s=x++s++Lib.join (y::r) s:=by
 simp[Lib.join,List.intercalate]
theorem xZ (x s:List UInt8):Lib.join [x] s=x:=by simp[Lib.join,List.intercalate]
theorem zHa (c:UInt8):∀l,Lib.join (uS c l) [c]=l
 | []=>by simp[uS,xZ]
 | b::l=>by
   have ih:=zHa c l;unfold uS;by_cases hb:b=c
   · subst hb;rw[if_pos rfl]
     match h:uS b l,ih with
     | [],_=>exact absurd h (zGc b l)
     | x::r,ih=>rw[yO,ih];rfl
   · rw[if_neg hb]
     match h:uS c l,ih with
     | [],_=>exact absurd h (zGc c l)
     | [x],ih=>rw[xZ]at ih;simp only[xZ];rw[ih]
     | x::y::r,ih=>rw[yO]at ih;simp only[yO];rw[←ih];simp
def zZ0 (c:UInt8) (s:ByteArray):List ByteArray:=(uS c s.data.toList).map fun l=>⟨l.toArray⟩
theorem zLH {l:List ByteArray} {k:List (List UInt8)} (h:l.map (·.data.toList)=k):l=k.map fun x=>⟨x.toArray⟩:=by
 subst h;rw[List.map_map]
 have:((fun x:List UInt8=>(⟨x.toArray⟩:ByteArray)) ∘ fun x:ByteArray=>x.data.toList)=id:=by
  funext x
  cases x;rfl
 rw[this,List.map_id]
theorem zEb (c:UInt8) (s:ByteArray):Lib.splitB ⟨#[c]⟩ 0 (Lib.countB s ⟨#[c]⟩) s=zZ0 c s:=by
 apply zLH;rw[Lib.splitB_data];exact zFk c s.data.toList
theorem zJK (c:UInt8) (s:ByteArray):Lib.join ((zZ0 c s).map (·.data.toList)) [c]=s.data.toList:=by
 unfold zZ0;rw[List.map_map]
 have:((fun x:ByteArray=>x.data.toList) ∘ fun l:List UInt8=>(⟨l.toArray⟩:ByteArray))=id:=by
  funext x
  rfl
 rw[this,List.map_id,zHa]
theorem zHm (c:UInt8):∀l,(uS c l).length≤l.length+1
 | []=>by simp[uS]
 | b::l=>by
   have ih:=zHm c l;unfold uS;split
   · simpa using ih
   · split
     · simp
     · rename_i h t e;rw[e]at ih;simp at ih ⊢;omega
theorem zEH (c:UInt8):∀l,∀x∈uS c l,x.length≤l.length
 | [],x,hx=>by simp[uS]at hx;subst hx;simp
 | b::l,x,hx=>by
   have ih:=zEH c l;unfold uS at hx;split at hx
   · simp only[List.mem_cons]at hx;rcases hx with rfl | hx
     · simp
     · have:=ih x hx;simp;omega
   · split at hx
     · simp at hx;subst hx;simp
     · rename_i h t e;rw[e]at ih;simp only[List.mem_cons]at hx;rcases hx with rfl | hx
       · have:=ih h (by simp);simpa using this
       · have:=ih x (by simp[hx]);simp;omega
end Go.Proofs.YtgmaamnofhmecaaGreatDoor
namespace Go.Proofs.YtgmaamnofhmecaaGreatDoor
open Go.RowKit
theorem zFF (s:ByteArray) (f k:Nat):s.extract f k=⟨((s.data.toList.drop f).take (k-f)).toArray⟩:=by
 have h:(s.extract f k).data.toList=(s.data.toList.drop f).take (k-f):=by rw[ByteArray.data_extract,Array.toList_extract,List.extract_eq_take_drop]
 apply uP;rw[yD,h,yD]
structure CutI (c:UInt8) (l:List UInt8) (k f:Nat) (done:List ByteArray):Prop where
 fk:f≤k
 kl:k≤l.length
 eq:(uS c l).map (fun x=>(⟨x.toArray⟩:ByteArray))=done++(uS c (l.drop f)).map (fun x=>⟨x.toArray⟩)
 free:c ∉ (l.drop f).take (k-f)
theorem CutI.start (c:UInt8) (l:List UInt8):CutI c l 0 0 []:=⟨Nat.le_refl _,Nat.zero_le _,by simp,by simp⟩
theorem CutI.skip {c:UInt8} {l:List UInt8} {k f:Nat} {done:List ByteArray} (h:CutI c l k f done) (hk:k<l.length) (hc:l[k]≠c):CutI c l (k+1) f done:=by
 have h1:=h.fk;refine⟨by omega,by omega,h.eq,?_⟩;rw[show k+1-f=(k-f)+1 by omega,List.take_succ_eq_append_getElem (by rw[List.length_drop];omega)];rw[List.mem_append,List.mem_singleton];rintro(h2 | h2)
 · exact h.free h2
 · apply hc;rw[List.getElem_drop]at h2;rw[h2]
   congr 1
   omega
theorem CutI.hit {l:List UInt8} {s:ByteArray} {k f:Nat} {done:List ByteArray} {c:UInt8} (hs:s.data.toList=l) (h:CutI c l k f done) (hk:k<l.length) (hc:l[k]=c):CutI c l (k+1) (k+1) (done++[s.extract f k]):=by
 have h1:=h.fk;refine⟨Nat.le_refl _,by omega,?_,by simp⟩;have hd:l.drop f=(l.drop f).take (k-f)++c::l.drop (k+1):=by have:=List.take_append_drop (k-f) (l.drop f);rw[List.drop_drop,show f+(k-f)=k by omega,List.drop_eq_getElem_cons hk,hc]at this;exact this.symm
 rw[h.eq,hd,zDk _ _ _ h.free,List.map_cons,List.append_assoc,List.singleton_append,zFF,hs]
theorem CutI.last {l:List UInt8} {s:ByteArray} {f:Nat} {done:List ByteArray} {c:UInt8} (hs:s.data.toList=l) (h:CutI c l l.length f done):zZ0 c s=done++[s.extract f l.length]:=by
 have h1:=h.fk;unfold zZ0;rw[hs,h.eq];have hf:=h.free;rw[List.take_of_length_le (by rw[List.length_drop];omega)]at hf;rw[zDl _ _ hf,zFF,hs,List.take_of_length_le (by rw[List.length_drop];omega)];rfl
set_option maxRecDepth 100000 in
theorem zIg (s:ByteArray) (w:World) (hs:s.size≤1048576) :
 Calls Tryz.prog 206 #[.string s] w fun e w'=>∃v,e=.returned v∧Own.SubO w' w.heap.size v (zZ0 94 s)∧Below w.heap.size w w':=by
 obtain⟨i0,hi,hz0,hz1,hz2⟩:=info_parts zCz;have hsz:s.data.toList.length=s.size:=(Lib.size_eq s).symm;have HSZ:=zh hsz;clear hsz;go_enter Tryz.func206,Tryz.ntmps206;go_wp2_with fail;go_loopw [3,4,5] (fun v f i wr=>∃(k fr:Nat) (done:List ByteArray),i=.int .i64 k∧f=.int .i64 fr∧fr≤k∧k≤s.size+1∧done.length≤k∧wr.ownsRow w.heap.size 9 1 v done.length (done.map Value.string)∧Below w.heap.size w wr∧Hid ((k≤s.size∧CutI 94 s.data.toList k fr done)∨(k=s.size+1∧zZ0 94 s=done))) (fun _ _ i _=>s.size+1-(intOf i).toNat);case atStart=>refine⟨0,0,[],rfl,rfl,Nat.le_refl _,Nat.zero_le _,Nat.le_refl _,?_,Below.new _ _,.inl ⟨Nat.zero_le _,CutI.start _ _⟩⟩;simpa using World.ownsRow_lit (e:=9) (size:=1) w #[] 0 (Nat.le_refl _) (by omega) rfl
 case round =>
  obtain⟨k,f,done,rfl,rfl,hfk,hk,hdl,hown,hb,hI⟩:=hrel;have HO:=zh hown;have HB:=zh hb;clear hown hb;have hrow:Hid (∀o,(wr.alloc o).ownsRow w.heap.size 9 1 u3 done.length (done.map Value.string)):=fun o=>Own.own_later HO.out (Below.new _ _);have hbz:=HB.out.size;by_cases hle:k≤s.size
  · have HC:Hid (CutI 94 s.data.toList k f done):=by
     rcases hI.out with h | h
     · exact h.2
     · exact absurd h.1 (by omega)
    clear hI;by_cases hlt:k<s.size
    · have hkl:k<s.data.toList.length:=by rw[HSZ.out];exact hlt
      have HG:Hid (s.data.toList[k]=s[k]):=rfl;by_cases h3:s[k].toNat=94
      · have HN:Hid (CutI 94 s.data.toList (k+1) (k+1) (done++[s.extract f k])):=HC.out.hit rfl hkl (by rw[HG.out];exact UInt8.toNat_inj.1 h3);have hb3:((s[k].toNat:Int)==94)=true:=by rw[beq_iff_eq];omega
        have hb4:(s[k].toNat==94)=true:=by rw[beq_iff_eq];omega
        have hne:((k:Int)==(s.size:Int))=false:=by rw[beq_eq_false_iff_ne];omega
        have hne2:(k==s.size)=false:=by rw[beq_eq_false_iff_ne];omega
        clear h3;go_wp2_with (at_builtin;refine wpList_append_own _ rfl (.tmp 23) (.tmp 28) 27 rfl w.heap.size 9 i0 _ 1 16 Tryz.underlying27 hi hz0 hz1 hz2 rfl (by decide) _ done.length _ rfl (hrow.out _) ⟨_,0,none⟩ 1 1 [.string (s.extract f k)] rfl rfl ?c1 ?c2 ?c3 ?c4 ?c5 ?_);all_goals try (first | exact vZ _ #[.string (s.extract f k)] _ _ (by simp) | (simp[Value.oneCell'];done) | (unfold maxLen;omega) | omega | (simp;omega))
        intro v1 w2 hown1 hg1 _;have HO3:Hid (w2.ownsRow w.heap.size 9 1 v1 (done++[s.extract f k]).length ((done++[s.extract f k]).map Value.string)):=by unfold Hid;rw[List.length_append,List.length_singleton,List.map_append];exact hown1
        have HB3:=zh (vS (HB.out.later (Below.new wr _)) (hrow.out _) (Nat.le_refl _) hg1);clear hown1 hg1;go_wp2_with fail;go_roundw;case rel=>exact⟨k+1,k+1,_,by go_num,by go_num,by omega,by omega,(by first | (simp;done) | (simp;omega)),HO3.out,HB3.out,.inl ⟨by omega,HN.out⟩⟩
        case measure=>simp[intOf];omega
      · have HN:Hid (CutI 94 s.data.toList (k+1) f done):=HC.out.skip hkl (by rw[HG.out];intro e;exact h3 (by rw[e];rfl));have hb3:((s[k].toNat:Int)==94)=false:=by rw[beq_eq_false_iff_ne];omega
        have hb4:(s[k].toNat==94)=false:=by rw[beq_eq_false_iff_ne];omega
        have hne:((k:Int)==(s.size:Int))=false:=by rw[beq_eq_false_iff_ne];omega
        have hne2:(k==s.size)=false:=by rw[beq_eq_false_iff_ne];omega
        clear h3;go_wp2_with fail;go_roundw;case rel=>exact⟨k+1,f,done,by go_num,rfl,by omega,by omega,by omega,HO.out,HB.out,.inl ⟨by omega,HN.out⟩⟩
        case measure=>simp[intOf];omega
    · obtain rfl:k=s.size:=by omega
      have HN:Hid (zZ0 94 s=done++[s.extract f s.size]):=by
       have h:=HC.out;have e:=HSZ.out;have h2:CutI 94 s.data.toList s.data.toList.length f done:=by rw[e];exact h
       have h3:=h2.last rfl;rw[e]at h3;exact h3
      go_wp2_with (at_builtin;refine wpList_append_own _ rfl (.tmp 23) (.tmp 28) 27 rfl w.heap.size 9 i0 _ 1 16 Tryz.underlying27 hi hz0 hz1 hz2 rfl (by decide) _ done.length _ rfl (hrow.out _) ⟨_,0,none⟩ 1 1 [.string (s.extract f s.size)] rfl rfl ?d1 ?d2 ?d3 ?d4 ?d5 ?_);all_goals try (first | exact vZ _ #[.string (s.extract f s.size)] _ _ (by simp) | (simp[Value.oneCell'];done) | (unfold maxLen;omega) | omega | (simp;omega))
      intro v1 w2 hown1 hg1 _;have HO3:Hid (w2.ownsRow w.heap.size 9 1 v1 (done++[s.extract f s.size]).length ((done++[s.extract f s.size]).map Value.string)):=by unfold Hid;rw[List.length_append,List.length_singleton,List.map_append];exact hown1
      have HB3:=zh (vS (HB.out.later (Below.new wr _)) (hrow.out _) (Nat.le_refl _) hg1);clear hown1 hg1;go_wp2_with fail;go_roundw;case rel=>exact⟨s.size+1,s.size+1,_,by go_num,by go_num,by omega,by omega,(by first | (simp;done) | (simp;omega)),HO3.out,HB3.out,.inr ⟨rfl,HN.out⟩⟩
      case measure=>first | (simp[intOf];done) | (simp[intOf];omega)
  · have HE:Hid (zZ0 94 s=done):=by
     rcases hI.out with h | h
     · exact absurd h.1 hle
     · exact h.2
    go_wp2_with fail;go_ret;refine⟨_,rfl,?_,HB.out⟩;rw[HE.out];exact HO.out
end Go.Proofs.YtgmaamnofhmecaaGreatDoor
namespace Go.Proofs.YtgmaamnofhmecaaGreatDoor
open Go.RowKit
def RowR (w:World) (B:Nat) (c0:Value) (d:List ByteArray):Prop:=∃A n cap,c0=.slice A n cap∧Strs w B A n d∧n≤cap
theorem RowR.later {w w':World} {c0:Value} {d:List ByteArray} (h:RowR w w.heap.size c0 d) (hb:Below w.heap.size w w'):RowR w' w'.heap.size c0 d:=by
 obtain⟨A,n,cap,e,s,k⟩:=h;exact⟨A,n,cap,e,s.later hb,k⟩
def wL (d:List ByteArray):Prop:=d.length≤1048576∧∀s∈d,s.size≤1048576
def vC (cols d:List ByteArray):Bool:=decide (d.length=cols.length)&&(decide (d.getD 0 ByteArray.empty≠⟨#[]⟩)&&d.all yJ)
theorem zJV (p:ByteArray→Bool) (l:List ByteArray) (k:Nat) (h:k<l.length):(l.drop k).all p=(p (l.getD k ByteArray.empty)&&(l.drop (k+1)).all p):=by
 rw[List.drop_eq_getElem_cons h,List.all_cons,List.getD_eq_getElem?_getD,List.getElem?_eq_getElem h];rfl
theorem vK (l:List ByteArray) (k:Nat) (h:k<l.length):l.getD k ByteArray.empty∈l:=by
 rw[List.getD_eq_getElem?_getD,List.getElem?_eq_getElem h];exact List.getElem_mem h
set_option maxRecDepth 100000 in
theorem zCe (b0 b1 b2 b3 r0:Value) (b:TableD) (d:List ByteArray) (w:World) (hb:TableR w w.heap.size b0 b1 b2 b3 b) (h:RowR w w.heap.size r0 d) (hs:wL d) (hpos:0<b.cols.length) :
 Calls Tryz.prog 57 #[.agg #[b0,b1,b2,b3],.agg #[r0]] w fun e w'=>e=.returned (.bool (vC b.cols d))∧Below w.heap.size w w':=by
 obtain⟨rfl,rfl,⟨A2,n2,p2,rfl,s2,k2⟩,⟨A3,n3,p3,rfl,s3,k3⟩⟩:=hb;obtain⟨A,n,cap,rfl,hS,hcap⟩:=h;have HR:Hid (vC b.cols d=(decide (n=n2)&&(decide (d.getD 0 ByteArray.empty≠⟨#[]⟩)&&d.all yJ))):=by unfold Hid vC;rw[hS.1,s2.1]
 rw[s2.1]at hpos;have hn:n≤1048576:=by rw[←hS.1];exact hs.1
 have HSS:=zh hS;have HK:=zh (fun W k (hk:k<d.length)=>zGN (d.getD k ByteArray.empty) W (hs.2 _ (vK d k hk)));have HB0:=zh ((Below.new w (.cells #[.string b.name,.string b.glob,.slice A2 n2 p2,.slice A3 n3 p3] 29)).later (Below.new _ (.cells #[.slice A n cap] 31)));have HX1:=zh (xB w (.cells #[.string b.name,.string b.glob,.slice A2 n2 p2,.slice A3 n3 p3] 29) (.cells #[.slice A n cap] 31));clear s2 s3 hS hs;generalize vC b.cols d=R at *;generalize b.name=nm at *;generalize b.glob=gl at *;go_enter Tryz.func57,Tryz.ntmps57;by_cases hlen:n=n2
 case neg =>
  have HE:Hid (R=false):=by unfold Hid;rw[HR.out,decide_eq_false hlen];rfl
  have hb3:((n:Int)==(n2:Int))=false:=by rw[beq_eq_false_iff_ne];omega
  have hb4:(n==n2)=false:=by rw[beq_eq_false_iff_ne];omega
  have hb5:((n:Int) != (n2:Int))=true:=by rw[bne,hb3];rfl
  clear hlen HR;go_wp2_with fail;go_ret;exact⟨zA0 HE.out.symm,HB0.out⟩
 subst hlen;obtain⟨bk,o,rfl,hbk,hcell⟩:=(HSS.out.later HB0.out).2 hpos;have hck:=hcell 0 hpos;rw[Nat.add_zero]at hck;have HC:=zh hcell;clear hcell;have hn0:(0:Int)<(n:Int):=by omega
 generalize hd0:d.getD 0 ByteArray.empty=s0 at *;by_cases h0:s0=⟨#[]⟩
 · have HE:Hid (R=false):=by unfold Hid;rw[HR.out,decide_eq_false (show ¬(s0≠⟨#[]⟩) from fun hh=>hh h0)];simp
   subst h0;clear HR;go_wp2_with fail;go_ret;exact⟨zA0 HE.out.symm,HB0.out⟩
 have HE:Hid (R=(d.drop 0).all yJ):=by unfold Hid;rw[HR.out,decide_eq_true h0];simp
 have hbe:=vE h0;have hbe3:=zBp h0;clear h0 HR hd0;go_wp2_with fail;go_loopw [5] (fun i wr=>∃k:Nat,k≤n∧i=.int .i64 k∧wr=((w.alloc (.cells #[.string nm,.string gl,.slice A2 n p2,.slice A3 n3 p3] 29)).alloc (.cells #[.slice (some ⟨bk,o,none⟩) n cap] 31))∧Hid (R=(d.drop k).all yJ)) (fun i _=>n-(intOf i).toNat);case atStart=>exact⟨0,Nat.zero_le _,rfl,rfl,HE.out⟩
 case round =>
  obtain⟨k,hk,rfl,rfl,hS⟩:=hrel;by_cases hlt:k<n
  · have hl:k<d.length:=by rw[HSS.out.1];exact hlt
    have HSt:=zh (zJV yJ d k hl);have hck2:=HC.out k hlt;have HKk:=zh (fun W=>HK.out W k hl);clear hl;generalize d.getD k ByteArray.empty=s at *;generalize yJ s=x at *;go_wp2_with fail;refine(HKk.out _).mono ?_;rintro e w1 ⟨rfl,rfl⟩;cases x
    · have HE2:Hid (R=false):=by unfold Hid;rw[hS.out,HSt.out];rfl
      go_wp2_with fail;go_ret;exact⟨zA0 HE2.out.symm,HB0.out⟩
    · have HE2:Hid (R=(d.drop (k+1)).all yJ):=by unfold Hid;rw[hS.out,HSt.out];rfl
      go_wp2_with fail;go_roundw;case rel=>exact⟨k+1,by omega,by go_num,(by first | rfl | trivial),HE2.out⟩
      case measure=>simp[intOf];omega
  · have HE2:Hid (R=true):=by unfold Hid;rw[hS.out,List.drop_of_length_le (by rw[HSS.out.1];omega)];rfl
    go_wp2_with fail;go_ret;exact⟨zA0 HE2.out.symm,HB0.out⟩
end Go.Proofs.YtgmaamnofhmecaaGreatDoor
