import Derived.Test.YtfpcjhajjejpdaaGreatDoorZ15
import Derived.Test.YtfpcjhajjejpdaaGreatDoorZ12
import Derived.Test.YtfpcjhajjejpdaaGreatDoorZ09
set_option maxHeartbeats 4000000
open Go.Lib renaming hid → zh
namespace Go.Proofs.YtfpcjhajjejpdaaGreatDoor
open Go.RowKit
theorem zEo (cols:List ByteArray) (k:Nat):xI cols k=(zB0 (cols.getD k ByteArray.empty)&&zCL cols k):=by
 unfold xI zCL inS;rw[←zCB]
 congr 1
 rw[Bool.eq_iff_iff];simp only[decide_eq_true_eq,Bool.not_eq_true',decide_eq_false_iff_not];omega
theorem zJc (cols:List ByteArray):yC (xI cols) 0 cols.length=(zAx cols&&!(cols.any fun s=>!zB0 s)):=by
 rw[Bool.eq_iff_iff,wO];unfold zAx;rw[Bool.and_eq_true,decide_eq_true_eq,Bool.not_eq_true',List.any_eq_false];constructor
 · intro h;refine⟨fun k hk=>?_,fun s hs=>?_⟩
   · have:=h k (Nat.zero_le _) (by omega);rw[zEo,Bool.and_eq_true]at this;exact this.2
   · obtain⟨k,hk,rfl⟩:=List.getElem_of_mem hs;have:=h k (Nat.zero_le _) (by omega);rw[zEo,Bool.and_eq_true,List.getD_eq_getElem?_getD,List.getElem?_eq_getElem hk,Option.getD_some]at this;simp[this.1]
 · rintro⟨h1,h2⟩ k _ hk;rw[zEo,Bool.and_eq_true];refine⟨?_,h1 k (by omega)⟩
   have:=h2 (cols.getD k ByteArray.empty) (by
    have hk':k<cols.length:=by omega
    rw[List.getD_eq_getElem?_getD,List.getElem?_eq_getElem hk'];simp)
   simpa using this
theorem zGZ (cols:List ByteArray):∀(l:List ByteArray) (m:Int),zAg cols l m=true→m<cols.length→m+l.length<cols.length
 | [],m,_,h=>by simpa using h
 | x::r,m,h,hm=>by rw[zAg,Bool.and_eq_true,decide_eq_true_eq]at h;have hb:=xD cols x;have:=zGZ cols r (xA cols x) h.2 hb.2;simp only[List.length_cons];omega
def zLL (d:TableD):Bool:=zB0 d.name&&(zB0 d.glob&&(inB d.cols.length 1 5&&(zAx d.cols&&(!(d.cols.any fun s=>!zB0 s)&&zAg d.cols d.idx 0))))
theorem zKW (d:TableD):zLL d=wM d:=by
 unfold zLL wM
 congr 1
 congr 1
 rw[zJc];by_cases h1:1≤d.cols.length
 · by_cases h5:d.cols.length≤5
   · have hi:inB d.cols.length 1 5=true:=by unfold inB;rw[decide_eq_true (show(1:Int)≤d.cols.length by omega),decide_eq_true (show(d.cols.length:Int)≤5 by omega)];rfl
     rw[hi,decide_eq_true h1,decide_eq_true h5];cases hx:zAg d.cols d.idx 0
     · simp
     · have:=zGZ d.cols d.idx 0 hx (by omega);rw[decide_eq_true (show d.idx.length<d.cols.length by omega)];simp
   · have hi:inB d.cols.length 1 5=false:=by unfold inB;rw[decide_eq_false (show ¬(d.cols.length:Int)≤5 by omega)];simp
     rw[hi,decide_eq_false h5];simp
 · have hi:inB d.cols.length 1 5=false:=by unfold inB;rw[decide_eq_false (show ¬(1:Int)≤d.cols.length by omega)];rfl
   rw[hi,decide_eq_false h1];rfl
set_option maxRecDepth 100000 in
theorem zDn (c0 c1 c2 c3:Value) (d:TableD) (w:World) (h:TableR w w.heap.size c0 c1 c2 c3 d) (hs:d.small) :
 Calls Tryz.prog 52 #[.agg #[c0,c1,c2,c3]] w fun e w'=>e=.returned (.bool (wM d))∧Below w.heap.size w w':=by
 obtain⟨rfl,rfl,⟨A2,n2,p2,rfl,s2,k2⟩,⟨A3,n3,p3,rfl,s3,k3⟩⟩:=h;obtain⟨f0,f1,⟨f2,f2'⟩,⟨f3,f3'⟩⟩:=hs;have hn2:n2≤1048576:=by rw[←s2.1];exact f2
 have hn3:n3≤1048576:=by rw[←s3.1];exact f3
 have HR:Hid (wM d=(zB0 d.name&&(zB0 d.glob&&(inB n2 1 5&&(zAx d.cols&&(!(d.cols.any fun s=>!zB0 s)&&zAg d.cols d.idx 0)))))):=by unfold Hid;rw[←zKW];unfold zLL;rw[s2.1]
 have HK0:=zh (fun W=>vO d.name W f0);have HK1:=zh (fun W=>vO d.glob W f1);have HKc:=zh (fun W=>zIp A2 n2 p2 W hn2);have HKw:=zh (fun W=>zAU (n2:Int) 1 5 W);have HKd:=zh (fun W (hW:Below w.heap.size w W)=>zCh A2 n2 p2 d.cols W (s2.later hW) hn2);have HKf:=zh (fun W (hW:Below w.heap.size w W)=>wR 126 #[] (fun s=>!zB0 s) A2 n2 p2 d.cols W (s2.later hW) hn2 (enters_of Tryz.func126 (by kernel_rfl) rfl) (fun s hs=>zFR s W (f2' s hs)));have HKi:=zh (fun W (hW:Below w.heap.size w W) (x:ByteArray)=>zEE A2 n2 p2 d.cols x W (s2.later hW) hn2);have HS3:=zh s3;have HL2:=zh s2.1;clear s2 s3 f2' f3' f2 f3 f0 f1;have HB0:=zh (Below.new w (.cells #[.string d.name,.string d.glob,.slice A2 n2 p2,.slice A3 n3 p3] 29));generalize wM d=R at *;generalize zB0 d.name=x0 at *;generalize zB0 d.glob=x1 at *;generalize inB n2 1 5=x2 at *;generalize zAx d.cols=x3 at *;generalize (d.cols.any fun s=>!zB0 s)=x4 at *;generalize d.name=nm at *;generalize d.glob=gl at *;generalize d.cols=cols at *;generalize d.idx=idx at *;go_enter Tryz.func52,Tryz.ntmps52;go_wp2_with fail;refine(HK0.out _).mono ?_;rintro e w1 ⟨rfl,rfl⟩;cases x0
 · have HE:Hid (R=false):=by unfold Hid;rw[HR.out];rfl
   go_wp2_with fail;go_ret;exact⟨zA0 HE.out.symm,HB0.out⟩
 go_wp2_with fail;refine(HK1.out _).mono ?_;rintro e w1 ⟨rfl,rfl⟩;cases x1
 · have HE:Hid (R=false):=by unfold Hid;rw[HR.out];rfl
   go_wp2_with fail;go_ret;exact⟨zA0 HE.out.symm,HB0.out⟩
 go_wp2_with fail;refine(HKc.out _).mono ?_;rintro e w1 ⟨rfl,rfl⟩;go_wp2_with fail;refine(HKw.out _).mono ?_;rintro e w1 ⟨rfl,rfl⟩;cases x2
 · have HE:Hid (R=false):=by unfold Hid;rw[HR.out];rfl
   go_wp2_with fail;go_ret;exact⟨zA0 HE.out.symm,HB0.out⟩
 go_wp2_with fail;refine(HKd.out _ HB0.out).mono ?_;rintro e w1 ⟨rfl,hb1⟩;have px:=(Blk.later (heap_alloc_new w _) hb1 (by simp)).cell;have hz1:w.heap.size<w1.heap.size:=by have:=hb1.size;simp at this;omega
 have HB1:=zh (HB0.out.later hb1);clear hb1;cases x3
 · have HE:Hid (R=false):=by unfold Hid;rw[HR.out];rfl
   go_wp2_with fail;go_ret;exact⟨zA0 HE.out.symm,HB1.out⟩
 go_wp2_with fail;refine(HKf.out _ HB1.out).mono ?_;rintro e w2 ⟨rfl,rfl⟩;cases x4
 case true =>
  have HE:Hid (R=false):=by unfold Hid;rw[HR.out];rfl
  go_wp2_with fail;go_ret;exact⟨zA0 HE.out.symm,HB1.out⟩
 have HE:Hid (R=zAg cols (idx.drop 0) 0):=by unfold Hid;rw[HR.out];rfl
 go_wp2_with fail;go_loopw [3,36] (fun l i wr=>∃(j:Nat) (m:Int),j≤n3∧i=.int .i64 j∧l=.int .i64 m∧0≤m∧m≤1048576∧wr=w1∧Hid (R=zAg cols (idx.drop j) m)) (fun _ i _=>n3-(intOf i).toNat);case atStart=>exact⟨0,0,Nat.zero_le _,rfl,rfl,by omega,by omega,rfl,HE.out⟩
 case round =>
  obtain⟨j,m,hj,rfl,rfl,hm0,hm1,rfl,hS2⟩:=hrel;by_cases hltj:j<n3
  · obtain⟨b,o,rfl,hb,hcell⟩:=(HS3.out.later HB1.out).2 (by omega);have hck:=hcell j hltj;clear hcell;have hl:j<idx.length:=by rw[HS3.out.1];exact hltj
    have HSt:=zh (zFn cols idx j m hl);have HKp:=zh (HKi.out _ HB1.out (idx.getD j ByteArray.empty));have hbd:=xD cols (idx.getD j ByteArray.empty);rw[HL2.out]at hbd;clear hl;generalize idx.getD j ByteArray.empty=s at *;generalize xA cols s=y at *;go_wp2_with fail;refine HKp.out.mono ?_;rintro e w2 ⟨rfl,rfl⟩;by_cases hy:y≤m
    · have HE3:Hid (R=false):=by unfold Hid;rw[hS2.out,HSt.out,decide_eq_false (show ¬m<y by omega)];rfl
      go_wp2_with fail;go_ret;exact⟨zA0 HE3.out.symm,HB1.out⟩
    · have HE3:Hid (R=zAg cols (idx.drop (j+1)) y):=by unfold Hid;rw[hS2.out,HSt.out,decide_eq_true (show m<y by omega)];rfl
      go_wp2_with fail;go_roundw;case rel=>exact⟨j+1,y,by omega,by go_num,rfl,by omega,by omega,(by first | rfl | trivial),HE3.out⟩
      case measure=>simp[intOf];omega
  · have HE3:Hid (R=true):=by unfold Hid;rw[hS2.out,List.drop_of_length_le (by rw[HS3.out.1];omega)];rfl
    go_wp2_with fail;go_ret;exact⟨zA0 HE3.out.symm,HB1.out⟩
end Go.Proofs.YtfpcjhajjejpdaaGreatDoor
namespace Go.Proofs.YtfpcjhajjejpdaaGreatDoor
open Go.RowKit
def zFk (od:ByteArray) (ds:Bool):Bool:=zB0 od||(decide (od=⟨#[]⟩)&&!ds)
def zHS (q:QueryD):Bool:=zB0 q.table&&(decide (q.cols.length≤5)&&(zAx q.cols&&(decide (q.wher.length≤3)&&(inB q.limit 0 24&&(!(q.cols.any fun s=>!zB0 s)&&(!(q.wher.any fun c=>!zF0 c)&&zFk q.order q.desc))))))
theorem zGx:zB0 ⟨#[]⟩=false:=by rfl
theorem zLk (od:ByteArray) (ds:Bool):zFk od ds=(zBG od&&(!ds||decide (od≠⟨#[]⟩))):=by
 unfold zFk zBG;by_cases h:od=⟨#[]⟩
 · subst h;rw[zGx];cases ds <;> simp
 · rw[decide_eq_false h,decide_eq_true h];cases zB0 od <;> cases ds <;> rfl
theorem zDl {α:Type} (p:α→Bool) (l:List α):(!(l.any fun c=>!p c))=l.all p:=by
 induction l with
 | nil=>rfl
 | cons a r ih=>rw[List.any_cons,List.all_cons,←ih];cases p a <;> simp
theorem zJv (q:QueryD):zHS q=vN q:=by
 unfold zHS vN;rw[zJc,zDl zF0 q.wher,zLk];generalize zB0 q.table=a;generalize decide (q.cols.length≤5)=b;generalize zAx q.cols=c;generalize decide (q.wher.length≤3)=d;generalize inB q.limit 0 24=e;generalize q.wher.all zF0=g;generalize zBG q.order=o;generalize (!q.desc||decide (q.order≠⟨#[]⟩))=k;generalize (q.cols.any fun s=>!zB0 s)=f;cases a <;> cases b <;> cases c <;> cases d <;> cases e <;> cases f <;> cases g <;> cases o <;> cases k <;> rfl
set_option maxRecDepth 100000 in
theorem zHu (c0 c1 c2 c3 c4 c5:Value) (d:QueryD) (w:World) (h:QueryR w w.heap.size c0 c1 c2 c3 c4 c5 d) (hs:d.small) :
 Calls Tryz.prog 102 #[.agg #[c0,c1,c2,c3,c4,c5]] w fun e w'=>e=.returned (.bool (vN d))∧Below w.heap.size w w':=by
 obtain⟨rfl,⟨A1,n1,p1,rfl,s1,k1⟩,⟨A2,n2,p2,rfl,s2,k2⟩,rfl,rfl,rfl⟩:=h;obtain⟨f0,⟨f1,f1'⟩,⟨f2,f2'⟩,f3⟩:=hs;have hn1:n1≤1048576:=by rw[←s1.1];exact f1
 have hn2:n2≤1048576:=by rw[←s2.1];exact f2
 have HR:Hid (vN d=(zB0 d.table&&(decide (n1≤5)&&(zAx d.cols&&(decide (n2≤3)&&(inB d.limit 0 24&&(!(d.cols.any fun s=>!zB0 s)&&(!(d.wher.any fun c=>!zF0 c)&&zFk d.order d.desc)))))))):=by unfold Hid;rw[←zJv];unfold zHS;rw[s1.1,s2.1]
 have HK0:=zh (fun W=>vO d.table W f0);have HK3:=zh (fun W=>vO d.order W f3);have HK5:=zh (fun W=>zAU d.limit 0 24 W);have HKd:=zh (fun W (hW:Below w.heap.size w W)=>zCh A1 n1 p1 d.cols W (s1.later hW) hn1);have HKf:=zh (fun W (hW:Below w.heap.size w W)=>wR 160 #[] (fun s=>!zB0 s) A1 n1 p1 d.cols W (s1.later hW) hn1 (enters_of Tryz.func160 (by kernel_rfl) rfl) (fun s hs=>zFU s W (f1' s hs)));have HKg:=zh (fun W (hW:Below w.heap.size w W)=>xX 161 #[] (fun c=>!zF0 c) A2 n2 p2 d.wher W (s2.later hW) hn2 (enters_of Tryz.func161 (by kernel_rfl) rfl) (fun c hc c0 c1 c2 W' _ hr=>zFT c0 c1 c2 c W' hr (f2' c hc)));have HL:Hid (zFk d.order d.desc=(zB0 d.order||(decide (d.order=⟨#[]⟩)&&!d.desc))):=rfl;clear s1 s2 f2' f1' f2 f1 f0 f3;generalize vN d=R at *;generalize zFk d.order d.desc=xl at *;generalize zB0 d.table=x0 at *;generalize zB0 d.order=x3 at *;generalize inB d.limit 0 24=x5 at *;generalize zAx d.cols=xd at *;generalize (d.cols.any fun s=>!zB0 s)=xf at *;generalize (d.wher.any fun c=>!zF0 c)=xg at *;generalize d.table=tb at *;generalize d.order=od at *;generalize d.desc=ds at *;generalize d.limit=lm at *;have HB0:=zh (Below.new w (.cells #[.string tb,.slice A1 n1 p1,.slice A2 n2 p2,.string od,.bool ds,.int .i64 lm] 32));go_enter Tryz.func102,Tryz.ntmps102;go_wp2_with fail;refine(HK0.out _).mono ?_;rintro e w1 ⟨rfl,rfl⟩;cases x0
 · have HE:Hid (R=false):=by unfold Hid;rw[HR.out];rfl
   go_wp2_with fail;go_ret;exact⟨zA0 HE.out.symm,HB0.out⟩
 by_cases a1:5<n1
 · have HE:Hid (R=false):=by unfold Hid;rw[HR.out,decide_eq_false (show ¬n1≤5 by omega)];rfl
   go_wp2_with fail;go_ret;exact⟨zA0 HE.out.symm,HB0.out⟩
 have HR1:Hid (R=(xd&&(decide (n2≤3)&&(x5&&(!xf&&(!xg&&xl)))))):=by unfold Hid;rw[HR.out,decide_eq_true (show n1≤5 by omega)];rfl
 clear HR;go_wp2_with fail;refine(HKd.out _ HB0.out).mono ?_;rintro e w1 ⟨rfl,hb1⟩;have px:=(Blk.later (heap_alloc_new w _) hb1 (by simp)).cell;have hz1:w.heap.size<w1.heap.size:=by have:=hb1.size;simp at this;omega
 have HB1:=zh (HB0.out.later hb1);have HBB:=zh hb1;clear hb1;cases xd
 · have HE:Hid (R=false):=by unfold Hid;rw[HR1.out];rfl
   go_wp2_with fail;go_ret;exact⟨zA0 HE.out.symm,HB1.out⟩
 by_cases a2:3<n2
 · have HE:Hid (R=false):=by unfold Hid;rw[HR1.out,decide_eq_false (show ¬n2≤3 by omega)];rfl
   go_wp2_with fail;go_ret;exact⟨zA0 HE.out.symm,HB1.out⟩
 have HR2:Hid (R=(x5&&(!xf&&(!xg&&xl)))):=by unfold Hid;rw[HR1.out,decide_eq_true (show n2≤3 by omega)];rfl
 clear HR1;go_wp2_with fail;refine(HK5.out _).mono ?_;rintro e w2 ⟨rfl,rfl⟩;cases x5
 · have HE:Hid (R=false):=by unfold Hid;rw[HR2.out];rfl
   go_wp2_with fail;go_ret;exact⟨zA0 HE.out.symm,HB1.out⟩
 go_wp2_with fail;refine(HKf.out _ HB1.out).mono ?_;rintro e w2 ⟨rfl,rfl⟩;cases xf
 case true =>
  have HE:Hid (R=false):=by unfold Hid;rw[HR2.out];rfl
  go_wp2_with fail;go_ret;exact⟨zA0 HE.out.symm,HB1.out⟩
 go_wp2_with fail;refine(HKg.out _ HB1.out).mono ?_;rintro e w2 ⟨rfl,hb2⟩;have hb3:=HBB.out.trans (hb2.mono (by simp;omega));clear px;have px:=(Blk.later (heap_alloc_new w _) hb3 (by simp)).cell;have hz2:w.heap.size<w2.heap.size:=by have:=hb3.size;simp at this;omega
 have HB2:=zh (HB1.out.later hb2);clear hb2 hb3;cases xg
 case true =>
  have HE:Hid (R=false):=by unfold Hid;rw[HR2.out];rfl
  go_wp2_with fail;go_ret;exact⟨zA0 HE.out.symm,HB2.out⟩
 have HE:Hid (R=(x3||(decide (od=⟨#[]⟩)&&!ds))):=by unfold Hid;rw[HR2.out,←HL.out];rfl
 go_wp2_with fail;refine(HK3.out _).mono ?_;rintro e w3 ⟨rfl,rfl⟩;cases x3
 case true =>
  have HE2:Hid (R=true):=by unfold Hid;rw[HE.out];rfl
  go_wp2_with fail;go_ret;exact⟨zA0 HE2.out.symm,HB2.out⟩
 by_cases ho:od=⟨#[]⟩
 · subst ho;have HE2:Hid (R=!ds):=by unfold Hid;rw[HE.out];simp
   cases ds
   all_goals
    go_wp2_with fail;go_ret;exact⟨zA0 HE2.out.symm,HB2.out⟩
 · have HE2:Hid (R=false):=by unfold Hid;rw[HE.out,decide_eq_false ho];rfl
   have hbe:=uC ho;have hbe3:=uN ho;clear ho;go_wp2_with fail;go_ret;exact⟨zA0 HE2.out.symm,HB2.out⟩
end Go.Proofs.YtfpcjhajjejpdaaGreatDoor
namespace Go.Proofs.YtfpcjhajjejpdaaGreatDoor
open Go.RowKit
theorem zIE (A:Option Addr) (n c:Nat) (ss:List ByteArray) (w:World) (h:Strs w w.heap.size A n ss) (hn:n≤1048576) :
 Calls Tryz.prog 103 #[.slice A n c] w fun e w'=>∃v,e=.returned v∧Own.SubO w' w.heap.size v ss∧Below w.heap.size w w':=by
 rcases Nat.eq_zero_or_pos n with h0 | h0
 · subst h0;obtain rfl:ss=[]:=List.eq_nil_of_length_eq_zero h.1
   cases A with
   | none=>exact(Tryz.slices_Clone_string_nil 0 c w).mono fun e w' ⟨he,hw⟩=>⟨_,he,by subst hw;exact Own.sub_nil _ _,by subst hw;exact Below.refl _ _⟩
   | some a=>exact(Tryz.slices_Clone_string_zero a c w).mono fun e w' ⟨v,he,ho,_,hb⟩=>⟨v,he,ho,hb⟩
 · obtain⟨b,o,rfl,hb,hc⟩:=h.2 h0;have hl:=h.1;refine(Tryz.slices_Clone_string b o n c ss w (by omega) (by omega) (fun j hj=>hc j (by omega))).mono fun e w' ⟨v,he,ho,_,hb⟩=>⟨v,he,?_,hb⟩;rw[List.take_of_length_le (by omega),←hl]at ho;exact ho
theorem zBm (g:Nat) (A:Option Addr) (n c:Nat) (bc:List ByteArray) (s:ByteArray) (W:World) (hc:W.cell? ⟨g,2,none⟩=some (.slice A n c)) (h:Strs W W.heap.size A n bc) (hn:n≤1048576) :
 Calls Tryz.prog 105 #[.string s,.pointer (some ⟨g,0,none⟩)] W fun e w'=>e=.returned (.bool (!inP bc s))∧Below W.heap.size W w':=by
 have HK:=zh (zEW A n c bc s W h hn);have HI:Hid (inP bc s=decide (0≤xA bc s)):=rfl;clear h;rw[←HI.out]at HK;generalize inP bc s=x at *;go_enter Tryz.func105,Tryz.ntmps105;go_wp2_with fail;refine HK.out.mono ?_;rintro e w1 ⟨rfl,rfl⟩;go_wp2_with fail;go_ret;exact⟨rfl,Below.refl _ _⟩
def zGc (d:QueryD):List ByteArray:=(d.cols++d.wher.map CondD.col)++(if d.order=⟨#[]⟩ then [] else [d.order])
theorem zKS (bc:List ByteArray) (d:QueryD):(!((zGc d).any fun s=>!inP bc s))=((decide (d.order=⟨#[]⟩)||inP bc d.order)&&(d.cols.all (inP bc)&&d.wher.all fun c=>inP bc c.col)):=by
 rw[zDl];unfold zGc;rw[List.all_append,List.all_append,List.all_map];have hx:(d.wher.all (inP bc ∘ CondD.col))=d.wher.all fun c=>inP bc c.col:=rfl;rw[hx];by_cases h:d.order=⟨#[]⟩
 · rw[if_pos h,decide_eq_true h];simp
 · rw[if_neg h,decide_eq_false h];simp only[List.all_cons,List.all_nil,Bool.and_true,Bool.false_or];rw[Bool.and_comm]
set_option maxRecDepth 100000 in
theorem zEU (b0 b1 b2 b3 c0 c1 c2 c3 c4 c5:Value) (b:TableD) (d:QueryD) (w:World) (hb:TableR w w.heap.size b0 b1 b2 b3 b) (h:QueryR w w.heap.size c0 c1 c2 c3 c4 c5 d) (hbs:b.small) (hs:d.small) :
 Calls Tryz.prog 44 #[.agg #[b0,b1,b2,b3],.agg #[c0,c1,c2,c3,c4,c5]] w fun e w'=>e=.returned (.bool (vS b d))∧Below w.heap.size w w':=by
 obtain⟨i0,hi,hz0,hzs1,hzs2⟩:=info_parts zAu;have HKT:=zh (fun W (hW:Below w.heap.size w W)=>zDn b0 b1 b2 b3 b W (hb.later hW) hbs);have HKQ:=zh (fun W (hW:Below w.heap.size w W)=>zHu c0 c1 c2 c3 c4 c5 d W (h.later hW) hs);have HR:Hid (vS b d=(wM b&&(vN d&&(decide (d.table=b.name)&&!((zGc d).any fun s=>!inP b.cols s))))):=by unfold Hid;rw[zKS];rfl
 have HU:Hid (zGc d=(d.cols++d.wher.map CondD.col)++(if d.order=⟨#[]⟩ then [] else [d.order])):=rfl;obtain⟨rfl,rfl,⟨A2,n2,p2,rfl,s2,k2⟩,⟨A3,n3,p3,rfl,s3,k3⟩⟩:=hb;obtain⟨rfl,⟨B1,m1,q1,rfl,t1,l1⟩,⟨B2,m2,q2,rfl,t2,l2⟩,rfl,rfl,rfl⟩:=h;have hn2:n2≤1048576:=by rw[←s2.1];exact hbs.2.2.1.1
 have hm1:m1≤1048576:=by rw[←t1.1];exact hs.2.1.1
 have hm2:m2≤1048576:=by rw[←t2.1];exact hs.2.2.1.1
 have HS2:=zh s2;have HT2:=zh t2;have HLc:=zh t1.1;have HKC:=zh (fun W (hW:Below w.heap.size w W)=>zIE B1 m1 q1 d.cols W (t1.later hW) hm1);have HQ5:Hid (vN d=true→m1≤5∧m2≤3):=fun hq=>by unfold vN at hq;simp only[Bool.and_eq_true,decide_eq_true_eq]at hq;have e1:=t1.1;have e2:=t2.1;omega
 clear s2 s3 t1 t2 hs hbs;generalize vS b d=R at *;generalize wM b=x0 at *;generalize vN d=x1 at *;generalize zGc d=US at *;generalize b.name=nm at *;generalize b.glob=gl at *;generalize b.cols=bc at *;generalize d.table=tb at *;generalize d.order=od at *;generalize d.desc=ds at *;generalize d.limit=lm at *;generalize d.cols=cols at *;generalize d.wher=wher at *;have HB0:=zh ((Below.new w (.cells #[.string nm,.string gl,.slice A2 n2 p2,.slice A3 n3 p3] 29)).later (Below.new _ (.cells #[.string tb,.slice B1 m1 q1,.slice B2 m2 q2,.string od,.bool ds,.int .i64 lm] 32)));go_enter Tryz.func44,Tryz.ntmps44;go_wp2_with fail;refine(HKT.out _ HB0.out).mono ?_;rintro e w1 ⟨rfl,hb1⟩;have HB1:=zh (HB0.out.later hb1);have px:=(Blk.later (zC0 w _ _) hb1 (by simp;omega)).cell;have py:=(Blk.later (uB w _ _) hb1 (by simp)).cell;have hz1:w.heap.size+1<w1.heap.size:=by have:=hb1.size;simp at this;omega
 cases x0
 · have HE:Hid (R=false):=by unfold Hid;rw[HR.out];rfl
   clear hb1;go_wp2_with fail;go_ret;exact⟨zA0 HE.out.symm,HB1.out⟩
 have HBB:=zh hb1;clear hb1;go_wp2_with fail;refine(HKQ.out _ HB1.out).mono ?_;rintro e w2 ⟨rfl,hb2'⟩;have hb2:=HBB.out.trans (hb2'.mono (by simp;omega));have HB2:=zh (HB1.out.later hb2');clear px py hb2';have px:=(Blk.later (zC0 w _ _) hb2 (by simp;omega)).cell;have py:=(Blk.later (uB w _ _) hb2 (by simp)).cell;have hz2:w.heap.size+1<w2.heap.size:=by have:=hb2.size;simp at this;omega
 have HBB2:=zh hb2;clear hb2;cases x1
 · have HE:Hid (R=false):=by unfold Hid;rw[HR.out];rfl
   go_wp2_with fail;go_ret;exact⟨zA0 HE.out.symm,HB2.out⟩
 have hq5:=HQ5.out (by trivial);by_cases hnm:tb=nm
 case neg =>
  have HE:Hid (R=false):=by unfold Hid;rw[HR.out,decide_eq_false hnm];rfl
  have hbn:=zP0 hnm;have hbe:=uC hnm;clear hnm;go_wp2_with fail;go_ret;exact⟨zA0 HE.out.symm,HB2.out⟩
 subst hnm;have HR1:Hid (R=!(US.any fun s=>!inP bc s)):=by unfold Hid;rw[HR.out];simp
 clear HR;go_wp2_with fail;refine(HKC.out _ HB2.out).mono ?_;rintro e w3 ⟨v,rfl,hown,hb3⟩;obtain⟨A5,cap5,rfl,_⟩:=Own.own_slice hown;have hO3:=Own.own_base hown (show w.heap.size+1+1≤w2.heap.size by omega);have HO3:=zh hO3;have hb4:=HBB2.out.trans (hb3.mono (by simp;omega));have HSt:Hid (Below (w.heap.size+1+1) ((w.alloc (.cells #[.string tb,.string gl,.slice A2 n2 p2,.slice A3 n3 p3] 29)).alloc (.cells #[.string tb,.slice B1 m1 q1,.slice B2 m2 q2,.string od,.bool ds,.int .i64 lm] 32)) w3):=by have:=hb4;simp only[World.size_alloc]at this;exact this
 clear px py hown hO3;have px:=(Blk.later (zC0 w _ _) hb4 (by simp;omega)).cell;have py:=(Blk.later (uB w _ _) hb4 (by simp)).cell;have hz3:w.heap.size+1<w3.heap.size:=by have:=hb4.size;simp at this;omega
 clear hb3 hb4;go_wp2_with fail;go_loopw [5,29] (fun v i wr=>∃(j:Nat),j≤m2∧i=.int .i64 j∧wr.ownsRow (w.heap.size+1+1) 9 1 v (cols++(wher.take j).map CondD.col).length ((cols++(wher.take j).map CondD.col).map Value.string)∧Below (w.heap.size+1+1) ((w.alloc (.cells #[.string tb,.string gl,.slice A2 n2 p2,.slice A3 n3 p3] 29)).alloc (.cells #[.string tb,.slice B1 m1 q1,.slice B2 m2 q2,.string od,.bool ds,.int .i64 lm] 32)) wr) (fun _ i _=>m2-(intOf i).toNat);case atStart=>exact⟨0,Nat.zero_le _,rfl,by simpa using HO3.out,HSt.out⟩
 case round =>
  obtain⟨j,hj,rfl,hown,hb⟩:=hrel;clear px py hz3;have px:=(Blk.later (zC0 w _ _) hb (by omega)).cell;have py:=(Blk.later (uB w _ _) hb (by omega)).cell;have hz3:w.heap.size+1<wr.heap.size:=by have:=hb.size;simp at this;omega
  have HBk:=zh hb;have HBw:=zh (HB0.out.trans (hb.mono (by omega)));have HO:=zh hown;clear hb hown;by_cases hlt:j<m2
  · obtain⟨bb,o,rfl,hbB,hc'⟩:=(HT2.out.later HBw.out).2 (by omega);obtain⟨d0,d1,d2,j0,j1,j2,hr⟩:=hc' j hlt;clear hc';have hl1:j<wher.length:=by rw[HT2.out.1];exact hlt
    have HTS:Hid (cols++(wher.take (j+1)).map CondD.col=(cols++(wher.take j).map CondD.col)++[(wher.getD j default).col]):=by unfold Hid;rw[List.take_succ_eq_append_getElem hl1,List.map_append,List.append_assoc,List.getD_eq_getElem?_getD,List.getElem?_eq_getElem hl1];rfl
    have hml:(cols++(wher.take j).map CondD.col).length≤8:=by rw[List.length_append,List.length_map,List.length_take,HLc.out];omega
    clear hl1;generalize wher.getD j default=f at *;generalize cols++(wher.take j).map CondD.col=ys at *;obtain⟨e0,e1,e2⟩:=hr;subst e0 e1 e2;generalize f.col=fc at *;generalize f.op=fo at *;generalize f.val=fv at *;have hrow:Hid (∀o o',((wr.alloc o).alloc o').ownsRow (w.heap.size+1+1) 9 1 u5 ys.length (ys.map Value.string)):=fun o o'=>Own.own_later (Own.own_later HO.out (Below.new _ _)) (Below.new _ _);go_wp2_with (at_builtin;refine wpList_append_own _ rfl (.tmp 33) (.tmp 36) 27 rfl (w.heap.size+1+1) 9 i0 _ 1 16 Tryz.underlying27 hi hz0 hzs1 hzs2 rfl (by decide) _ ys.length _ rfl (hrow.out _ _) ⟨_,0,none⟩ 1 1 [.string fc] rfl rfl ?c1 ?c2 ?c3 ?c4 ?c5 ?_);all_goals try (first | exact wD _ #[.string fc] _ _ (by simp) | (simp[Value.oneCell'];done) | (unfold maxLen;omega) | omega | (simp;omega))
    intro v1 w4 hown1 hg1 _;have HO4:Hid (w4.ownsRow (w.heap.size+1+1) 9 1 v1 (cols++(wher.take (j+1)).map CondD.col).length ((cols++(wher.take (j+1)).map CondD.col).map Value.string)):=by unfold Hid;rw[HTS.out,List.length_append,List.length_singleton,List.map_append];exact hown1
    have HB4:=zh (((HBk.out.alloc (by omega) _).alloc (by first | omega | (simp;omega)) _).grown hg1 (by first | omega | (simp;omega)) (fun g hg'=>((hrow.out (.cells #[] 0) (.cells #[] 0)).lt g hg').1));clear hown1 hg1;go_wp2_with fail;go_roundw;case rel=>exact⟨j+1,by omega,by go_num,HO4.out,HB4.out⟩
    case measure=>simp[intOf];omega
  · obtain rfl:j=m2:=by omega
    have HYS:Hid (cols++(wher.take j).map CondD.col=cols++wher.map CondD.col):=by unfold Hid;rw[List.take_of_length_le (by rw[HT2.out.1];omega)]
    have hml:(cols++(wher.take j).map CondD.col).length≤8:=by rw[List.length_append,List.length_map,List.length_take,HLc.out];omega
    rw[HYS.out]at HO hml;generalize cols++wher.map CondD.col=ys at *;by_cases ho:od=⟨#[]⟩
    · have HUS:Hid (US=ys):=by unfold Hid;rw[HU.out,if_pos ho,List.append_nil]
      have hlu:US.length≤8:=by rw[HUS.out];exact hml
      have hu:=HUS.out;subst hu;subst ho;obtain⟨A7,cap7,hv7,_,hS7⟩:=Own.SubO.strs HO.out;subst hv7;have HKL:=zh (fun W (hW:Below w.heap.size w W) (hc:W.cell? ⟨w.heap.size,2,none⟩=some (.slice A2 n2 p2)) A c (hs:Strs W W.heap.size A US.length US)=>vT 105 #[.pointer (some ⟨w.heap.size,0,none⟩)] (fun s=>!inP bc s) A US.length c US W hs (by omega) (enters_of Tryz.func105 (by kernel_rfl) rfl) (fun s _ W' hW'=>zBm w.heap.size A2 n2 p2 bc s W' ((hW'.cell (p:=⟨w.heap.size,2,none⟩) (by have:=World.block_lt_of_cell? W ⟨w.heap.size,2,none⟩ hc;exact this)).trans hc) ((HS2.out.later hW).later hW') hn2));generalize (US.any fun s=>!inP bc s)=X at *;go_wp2_with fail;refine(HKL.out _ HBw.out (px 2) _ _ hS7).mono ?_;rintro e w5 ⟨rfl,hb5⟩;have HB5:=zh (Below.later HBw.out hb5);clear hb5;go_wp2_with fail;go_ret;exact⟨zA0 HR1.out.symm,HB5.out⟩
    · have HUS:Hid (US=ys++[od]):=by unfold Hid;rw[HU.out,if_neg ho]
      have hbe:=uC ho;have hbn:=zP0 ho;have hbe3:=uN ho;clear ho;have hrow:Hid (∀o,(wr.alloc o).ownsRow (w.heap.size+1+1) 9 1 u5 ys.length (ys.map Value.string)):=fun o=>Own.own_later HO.out (Below.new _ _);go_wp2_with (at_builtin;refine wpList_append_own _ rfl (.tmp 42) (.tmp 45) 27 rfl (w.heap.size+1+1) 9 i0 _ 1 16 Tryz.underlying27 hi hz0 hzs1 hzs2 rfl (by decide) _ ys.length _ rfl (hrow.out _) ⟨_,0,none⟩ 1 1 [.string od] rfl rfl ?k1 ?k2 ?k3 ?k4 ?k5 ?_);all_goals try (first | exact wD _ #[.string od] _ _ (by simp) | (simp[Value.oneCell'];done) | (unfold maxLen;omega) | omega | (simp;omega))
      intro v1 w4 hown1 hg1 _;have HO4:Hid (w4.ownsRow (w.heap.size+1+1) 9 1 v1 US.length (US.map Value.string)):=by unfold Hid;rw[HUS.out,List.length_append,List.length_singleton,List.map_append];exact hown1
      have hB4:=(HBk.out.alloc (by omega) _).grown hg1 (by first | omega | (simp;omega)) (fun g hg'=>((hrow.out (.cells #[] 0)).lt g hg').1);have HB4:=zh (HB0.out.trans (hB4.mono (by omega)));have px4:=(Blk.later (zC0 w _ _) hB4 (by omega)).cell;have hlu:US.length≤9:=by rw[HUS.out,List.length_append,List.length_singleton];omega
      obtain⟨A7,cap7,hv7,_,hS7⟩:=Own.SubO.strs HO4.out;subst hv7;clear hown1 hg1 hB4;have HKL:=zh (fun W (hW:Below w.heap.size w W) (hc:W.cell? ⟨w.heap.size,2,none⟩=some (.slice A2 n2 p2)) A c (hs:Strs W W.heap.size A US.length US)=>vT 105 #[.pointer (some ⟨w.heap.size,0,none⟩)] (fun s=>!inP bc s) A US.length c US W hs (by omega) (enters_of Tryz.func105 (by kernel_rfl) rfl) (fun s _ W' hW'=>zBm w.heap.size A2 n2 p2 bc s W' ((hW'.cell (p:=⟨w.heap.size,2,none⟩) (by have:=World.block_lt_of_cell? W ⟨w.heap.size,2,none⟩ hc;exact this)).trans hc) ((HS2.out.later hW).later hW') hn2));generalize (US.any fun s=>!inP bc s)=X at *;go_wp2_with fail;refine(HKL.out _ HB4.out (px4 2) _ _ hS7).mono ?_;rintro e w5 ⟨rfl,hb5⟩;have HB5:=zh (Below.later HB4.out hb5);clear hb5;go_wp2_with fail;go_ret;exact⟨zA0 HR1.out.symm,HB5.out⟩
end Go.Proofs.YtfpcjhajjejpdaaGreatDoor
