import Derived.Test.YtgmaamnofhmecaaGreatDoorY27
import Derived.Test.YtgmaamnofhmecaaGreatDoorY12
import Derived.Test.YtgmaamnofhmecaaGreatDoorY15
import Derived.Test.YtgmaamnofhmecaaGreatDoorY23
set_option linter.unusedSimpArgs false
set_option maxHeartbeats 8000000
open Go.Lib renaming hid → zh
namespace Go.Proofs.YtgmaamnofhmecaaGreatDoor
open Go.RowKit
set_option linter.unusedVariables false
def uW (nm:ByteArray) (ss:List ByteArray) (fs:List NodeD) (w:World) (e:Ending) (w':World):Prop :=
 ∃v,e=.returned (.tuple #[v,.bool (decide (0≤vL nm ss fs))])∧Own.SubO w' w.heap.size v (if 0≤vL nm ss fs then (fs.getD (vL nm ss fs).toNat default).subs else [])∧Below w.heap.size w w'
set_option maxRecDepth 100000 in
theorem zBm (A A':Option Addr) (n c n' c':Nat) (ss ts:List ByteArray) (w:World) (htab:uG w) (h:Strs w w.heap.size A n ss) (h':Strs w w.heap.size A' n' ts) (hn:n≤1048576) (hn':n'≤1048576) (hz:∀s∈ss,s.size≤1048576) (hz':∀s∈ts,s.size≤1048576) :
 Calls Tryz.prog 235 #[.slice A n c,.slice A' n' c'] w fun e w'=>e=.returned (.bool (vE ss ts))∧Below w.heap.size w w':=by
 have HK:=zh (xY A A' n c n' c' ss ts w htab h h' hn hn' hz hz');have hE:=zFu ss ts;clear h h' hz hz' htab;generalize vE ss ts=R at *;generalize vQ ss ts=z at *;go_enter Tryz.func235,Tryz.ntmps235;go_wp2_with fail;refine HK.out.mono ?_;rintro e w1 ⟨rfl,hb1⟩;have HB:=zh hb1;clear hb1;have HE:=zh hE;clear hE;go_wp2_with fail;go_ret;exact⟨zA0 HE.out,HB.out⟩
set_option maxRecDepth 100000 in
theorem zCb (A:Option Addr) (n c:Nat) (fs:List NodeD) (nm:ByteArray) (S:Option Addr) (m q:Nat) (ss:List ByteArray) (w:World) (h:Nodes w w.heap.size A n fs) (ht:xA fs=true) (hS:Strs w w.heap.size S m ss) (hm:m≤1048576) (hth:wD nm ss=true) (hns:nm.size≤1048576) (hz:∀s∈ss,s.size≤1048576) :
 Calls Tryz.prog 177 #[.agg #[.slice A n c],.string nm,.slice S m q] w (uW nm ss fs w):=by
 have HK1:=zh (fun W (hW:Below w.heap.size w W)=>vF A n c fs W (h.later hW) (zC0 ht));have HK2:=zh (fun W (hW:Below w.heap.size w W)=>xK nm S m q ss W hns (hS.later hW) hm hz);have Hh:=zh h;have Hlen:=zh h.1;have hn:n≤120:=by rw[←h.1];exact(tree_iff.1 ht).1
 have Hs:=zh (zC0 ht);have Hst:=zh hS;have Hz:=zh hz;rw[ht]at HK1;rw[hth]at HK2;have HI0:Hid (vL nm ss fs=xJ (zBd nm ss) (fs.drop 0) 0):=rfl;have HQP:Hid (∀d,zBd nm ss d=(decide (d.name=nm)&&vE ss d.subs)):=fun _=>rfl;have HST:=zh (fun k (hk:k<n)=>zY0 (zBd nm ss) fs k (by rw[h.1];exact hk));have HEN:Hid (xJ (zBd nm ss) (fs.drop n) n=-1):=by unfold Hid;rw[List.drop_of_length_le (by rw[h.1];exact Nat.le_refl _)];rfl
 have HQ:Hid (∀v e w',e=.returned (.tuple #[v,.bool (decide (0≤vL nm ss fs))])→Own.SubO w' w.heap.size v (if 0≤vL nm ss fs then (fs.getD (vL nm ss fs).toNat default).subs else [])→Below w.heap.size w w'→uW nm ss fs w e w'):=fun v e w' h1 h2 h3=>⟨v,h1,h2,h3⟩;clear h ht hS hth hz;generalize vL nm ss fs=I at *;generalize uW nm ss fs w=POST at *;have HBX:Hid (Below w.heap.size w (w.alloc (.cells #[.slice A n c] 26))):=Below.new _ _;go_enter Tryz.func177,Tryz.ntmps177;go_wp2_with fail;refine(HK1.out _ HBX.out).mono ?_;rintro e w1 ⟨rfl,hb1⟩;have hbx0:=(Blk.later (heap_alloc_new w (.cells #[.slice A n c] 26)) hb1 (by simp));have HBX1:=zh (hb1.mono (show w.heap.size+1≤(w.alloc (.cells #[.slice A n c] 26)).heap.size by simp));have HB1:=zh (HBX.out.later hb1);have HX1:=zh hbx0;have p0:=hbx0.cell 0;simp at p0;clear hb1 hbx0;go_wp2_with fail;refine(HK2.out _ HB1.out).mono ?_;rintro e w2 ⟨rfl,rfl⟩;have hz1:=HX1.out.lt;clear p0;have p0:=HX1.out.cell 0;simp at p0;go_wp2_with fail;go_loopw [8] (fun i wr=>∃(k:Nat),k≤n∧i=.int .i64 k∧Below (w.heap.size+1) w1 wr∧Hid (I=xJ (zBd nm ss) (fs.drop k) k)) (fun i _=>n-(intOf i).toNat);case atStart=>exact⟨0,Nat.zero_le _,rfl,Below.refl _ _,HI0.out⟩
 case round =>
  obtain⟨k,hk,rfl,hb,HI⟩:=hrel;have p0:=(HX1.out.later hb (by omega)).cell 0;have hzz:w.heap.size<wr.heap.size:=Nat.lt_of_lt_of_le hz1 hb.size;have HB:=zh hb;have HBw:=zh (HB1.out.trans (hb.mono (by omega)));simp at p0;clear hb;by_cases hlt:k<n
  · have hki:(k:Int)<(n:Int):=by omega
    obtain⟨bb,o,rfl,hbB,hc⟩:=(Hh.out.later HBw.out).2 (by omega);obtain⟨c0,c1,c2,k0,k1,k2,hr⟩:=hc k hlt;have HSK:=zh (HST.out k hlt);have hsm:=Hs.out.2 _ (zE0 fs k (by rw[Hlen.out];exact hlt));rw[HQP.out]at HSK;have HGD:Hid (fs.getD k default=fs.getD k default):=rfl;generalize hdd:fs.getD k default=d at *;have HDD:=zh hdd;clear hc HGD hdd;obtain⟨rfl,⟨A1,n1,p1,rfl,s1,_⟩,rfl⟩:=hr;have hn1:n1≤1048576:=by rw[←s1.1];exact hsm.2.1.1
    have HKB:=zh (fun W (hW:Below wr.heap.size wr W)=>yT S A1 m q n1 p1 ss d.subs W (Hst.out.later (HBw.out.later hW)) (s1.later hW) hm hn1 Hz.out hsm.2.1.2);have HKC:=zh (fun W (hW:Below wr.heap.size wr W)=>zCw A1 n1 p1 d.subs W (s1.later hW) hn1);have HRES:Hid (I=(k:Int)→(if 0≤I then (fs.getD I.toNat default).subs else [])=d.subs):=fun e=>by rw[e,if_pos (by omega),Int.toNat_natCast,HDD.out]
    clear s1 hsm;generalize hdn:d.name=dn at *;generalize d.val=vl at *;by_cases hnm:dn=nm
    · obtain rfl:=hnm.symm;rw[decide_eq_true rfl,Bool.true_and]at HSK;generalize vE ss d.subs=y at *;clear hdn;go_wp2_with fail;refine(HKB.out _ (Below.refl _ _)).mono ?_;rintro e w3 ⟨rfl,hb1'⟩;have hb1:Below wr.heap.size wr w3:=(Below.refl _ _).later hb1';have p2:=cell_later hb1 p0;have l1:=cell_later hb1 k1;have HB3:=zh hb1;clear hb1 hb1';cases y
      · have HI2:Hid (I=xJ (zBd nm ss) (fs.drop (k+1)) (k+1)):=by unfold Hid;rw[HI.out,HSK.out,if_neg Bool.false_ne_true]
        go_wp2_with fail;go_roundw;case rel=>exact⟨k+1,by omega,by go_num,HB.out.trans (HB3.out.mono (by omega)),HI2.out⟩
        case measure=>simp[intOf];omega
      · have HE:Hid (I=(k:Int)):=by unfold Hid;rw[HI.out,HSK.out,if_pos rfl]
        go_wp2_with fail;refine(HKC.out _ HB3.out).mono ?_;rintro e w4 ⟨A2,c2,rfl,_,ho2,hb2⟩;have HB4:=zh ((HBw.out.later HB3.out).later hb2);have HO4:=zh (Own.own_base ho2 ((HBw.out.later HB3.out).size));clear hb2 ho2;go_wp2_with fail;refine HQ.out (.slice A2 n1 c2) _ _ ?_ ?_ HB4.out
        · rw[HE.out,decide_eq_true (by omega)];rfl
        · rw[HRES.out HE.out];exact HO4.out
    · rw[decide_eq_false hnm,Bool.false_and]at HSK;have hne1:=zG0 hnm;have hne2:=zBu hnm;clear hnm hdn;have HI2:Hid (I=xJ (zBd nm ss) (fs.drop (k+1)) (k+1)):=by unfold Hid;rw[HI.out,HSK.out,if_neg Bool.false_ne_true]
      go_wp2_with fail;go_roundw;case rel=>exact⟨k+1,by omega,by go_num,HB.out,HI2.out⟩
      case measure=>simp[intOf];omega
  · obtain rfl:k=n:=by omega
    have HE:Hid (I=-1):=by unfold Hid;rw[HI.out,HEN.out]
    go_wp2_with fail;refine HQ.out (.slice none 0 0) _ _ ?_ ?_ HBw.out
    · rw[HE.out];rfl
    · rw[HE.out];exact Own.sub_nil _ _
set_option maxRecDepth 100000 in
theorem zFE (A:Option Addr) (n c:Nat) (fs:List NodeD) (nm:ByteArray) (S:Option Addr) (m q:Nat) (ss:List ByteArray) (w:World) (htab:uG w) (h:Nodes w w.heap.size A n fs) (ht:xA fs=true) (hS:Strs w w.heap.size S m ss) (hm:m≤1048576) (hth:wD nm ss=true) (hns:nm.size≤1048576) (hz:∀s∈ss,s.size≤1048576) :
 Calls Tryz.prog 184 #[.agg #[.slice A n c],.string nm,.slice S m q] w (uW nm ss fs w):=by
 have HK1:=zh (fun W (hW:Below w.heap.size w W)=>zAf A n c fs W (h.later hW) (wA htab hW) (zC0 ht));have HK2:=zh (fun W (hW:Below w.heap.size w W)=>zAu nm S m q ss W hns (hS.later hW) hm hz);have Hh:=zh h;have Hlen:=zh h.1;have hn:n≤120:=by rw[←h.1];exact(tree_iff.1 ht).1
 have Hs:=zh (zC0 ht);have Hst:=zh hS;have Hz:=zh hz;have HT:=zh htab;rw[ht]at HK1;rw[hth]at HK2;have HI0:Hid (vL nm ss fs=xJ (zBd nm ss) (fs.drop 0) 0):=rfl;have HQP:Hid (∀d,zBd nm ss d=(decide (d.name=nm)&&vE ss d.subs)):=fun _=>rfl;have HST:=zh (fun k (hk:k<n)=>zY0 (zBd nm ss) fs k (by rw[h.1];exact hk));have HEN:Hid (xJ (zBd nm ss) (fs.drop n) n=-1):=by unfold Hid;rw[List.drop_of_length_le (by rw[h.1];exact Nat.le_refl _)];rfl
 have HQ:Hid (∀v e w',e=.returned (.tuple #[v,.bool (decide (0≤vL nm ss fs))])→Own.SubO w' w.heap.size v (if 0≤vL nm ss fs then (fs.getD (vL nm ss fs).toNat default).subs else [])→Below w.heap.size w w'→uW nm ss fs w e w'):=fun v e w' h1 h2 h3=>⟨v,h1,h2,h3⟩;clear h ht hS hth hz htab;generalize vL nm ss fs=I at *;generalize uW nm ss fs w=POST at *;have HBX:Hid (Below w.heap.size w (w.alloc (.cells #[.slice A n c] 26))):=Below.new _ _;go_enter Tryz.func184,Tryz.ntmps184;go_wp2_with fail;refine(HK1.out _ HBX.out).mono ?_;rintro e w1 ⟨rfl,hb1⟩;have hbx0:=(Blk.later (heap_alloc_new w (.cells #[.slice A n c] 26)) hb1 (by simp));have HBX1:=zh (hb1.mono (show w.heap.size+1≤(w.alloc (.cells #[.slice A n c] 26)).heap.size by simp));have HB1:=zh (HBX.out.later hb1);have HX1:=zh hbx0;have p0:=hbx0.cell 0;simp at p0;clear hb1 hbx0;go_wp2_with fail;refine(HK2.out _ HB1.out).mono ?_;rintro e w2 ⟨rfl,rfl⟩;have hz1:=HX1.out.lt;clear p0;have p0:=HX1.out.cell 0;simp at p0;go_wp2_with fail;go_loopw [22] (fun i wr=>∃(k:Nat),k≤n∧i=.int .i64 k∧Below (w.heap.size+1) w1 wr∧Hid (I=xJ (zBd nm ss) (fs.drop k) k)) (fun i _=>n-(intOf i).toNat);case atStart=>exact⟨0,Nat.zero_le _,rfl,Below.refl _ _,HI0.out⟩
 case round =>
  obtain⟨k,hk,rfl,hb,HI⟩:=hrel;have p0:=(HX1.out.later hb (by omega)).cell 0;have hzz:w.heap.size<wr.heap.size:=Nat.lt_of_lt_of_le hz1 hb.size;have HB:=zh hb;have HBw:=zh (HB1.out.trans (hb.mono (by omega)));simp at p0;clear hb;by_cases hlt:k<n
  · have hki:(k:Int)<(n:Int):=by omega
    obtain⟨bb,o,rfl,hbB,hc⟩:=(Hh.out.later HBw.out).2 (by omega);obtain⟨c0,c1,c2,k0,k1,k2,hr⟩:=hc k hlt;have HSK:=zh (HST.out k hlt);have hsm:=Hs.out.2 _ (zE0 fs k (by rw[Hlen.out];exact hlt));rw[HQP.out]at HSK;have HGD:Hid (fs.getD k default=fs.getD k default):=rfl;generalize hdd:fs.getD k default=d at *;have HDD:=zh hdd;clear hc HGD hdd;obtain⟨rfl,⟨A1,n1,p1,rfl,s1,_⟩,rfl⟩:=hr;have hn1:n1≤1048576:=by rw[←s1.1];exact hsm.2.1.1
    have HKB:=zh (fun W (hW:Below wr.heap.size wr W)=>zBm S A1 m q n1 p1 ss d.subs W (wA HT.out (HBw.out.later hW)) (Hst.out.later (HBw.out.later hW)) (s1.later hW) hm hn1 Hz.out hsm.2.1.2);have HKC:=zh (fun W (hW:Below wr.heap.size wr W)=>zV0 A1 n1 p1 d.subs W (s1.later hW) hn1);have HRES:Hid (I=(k:Int)→(if 0≤I then (fs.getD I.toNat default).subs else [])=d.subs):=fun e=>by rw[e,if_pos (by omega),Int.toNat_natCast,HDD.out]
    clear s1 hsm;generalize hdn:d.name=dn at *;generalize d.val=vl at *;have r0:=(show Blk _ _ _ _ from heap_alloc_new wr (.cells #[.string dn,.slice A1 n1 p1,.string vl] 102)).cell;have q0:(wr.alloc (.cells #[.string dn,.slice A1 n1 p1,.string vl] 102)).cell? ⟨wr.heap.size,0,none⟩=some (.string dn):=r0 0;have q1:(wr.alloc (.cells #[.string dn,.slice A1 n1 p1,.string vl] 102)).cell? ⟨wr.heap.size,1,none⟩=some (.slice A1 n1 p1):=r0 1;have HWn:=zh (Below.new wr (.cells #[.string dn,.slice A1 n1 p1,.string vl] 102));clear r0;by_cases hnm:dn=nm
    · obtain rfl:=hnm.symm;rw[decide_eq_true rfl,Bool.true_and]at HSK;generalize vE ss d.subs=y at *;clear hdn;go_wp2_with fail;refine(HKB.out _ HWn.out).mono ?_;rintro e w3 ⟨rfl,hb1'⟩;have hb1:Below wr.heap.size wr w3:=HWn.out.later hb1';have l1:=cell_later hb1' q1;have HB3:=zh hb1;clear hb1 hb1';cases y
      · have HI2:Hid (I=xJ (zBd nm ss) (fs.drop (k+1)) (k+1)):=by unfold Hid;rw[HI.out,HSK.out,if_neg Bool.false_ne_true]
        go_wp2_with fail;go_roundw;case rel=>exact⟨k+1,by omega,by go_num,HB.out.trans (HB3.out.mono (by omega)),HI2.out⟩
        case measure=>simp[intOf];omega
      · have HE:Hid (I=(k:Int)):=by unfold Hid;rw[HI.out,HSK.out,if_pos rfl]
        go_wp2_with fail;refine(HKC.out _ HB3.out).mono ?_;rintro e w4 ⟨v2,rfl,ho2,hb2⟩;have HB4:=zh ((HBw.out.later HB3.out).later hb2);have HO4:=zh (Own.own_base ho2 ((HBw.out.later HB3.out).size));clear hb2 ho2;go_wp2_with fail;refine HQ.out v2 _ _ ?_ ?_ HB4.out
        · rw[HE.out,decide_eq_true (by omega)];rfl
        · rw[HRES.out HE.out];exact HO4.out
    · rw[decide_eq_false hnm,Bool.false_and]at HSK;have hne1:=zG0 hnm;have hne2:=zBu hnm;clear hnm hdn;have HI2:Hid (I=xJ (zBd nm ss) (fs.drop (k+1)) (k+1)):=by unfold Hid;rw[HI.out,HSK.out,if_neg Bool.false_ne_true]
      go_wp2_with fail;go_roundw;case rel=>exact⟨k+1,by omega,by go_num,(HB.out.trans (HWn.out.mono (by omega))),HI2.out⟩
      case measure=>simp[intOf];omega
  · obtain rfl:k=n:=by omega
    have HE:Hid (I=-1):=by unfold Hid;rw[HI.out,HEN.out]
    go_wp2_with fail;refine HQ.out (.slice none 0 0) _ _ ?_ ?_ HBw.out
    · rw[HE.out];rfl
    · rw[HE.out];exact Own.sub_nil _ _
end Go.Proofs.YtgmaamnofhmecaaGreatDoor
namespace Go.Proofs.YtgmaamnofhmecaaGreatDoor
open Go.RowKit
set_option linter.unusedVariables false
theorem zEM (nm:ByteArray) (ss:List ByteArray) (fs:List NodeD) (k:Nat) (hk:k<fs.length):zF0 nm ss (fs.take (k+1))=wW nm ss (fs.getD k default) (zF0 nm ss (fs.take k)):=by
 unfold zF0;rw[List.take_add_one,List.getElem?_eq_getElem hk,List.foldl_append,List.getD_eq_getElem?_getD,List.getElem?_eq_getElem hk];rfl
set_option maxRecDepth 100000 in
theorem zGp (A:Option Addr) (n c:Nat) (fs:List NodeD) (nm:ByteArray) (S:Option Addr) (m q:Nat) (ss:List ByteArray) (w:World) (h:Nodes w w.heap.size A n fs) (hs:yC fs) (h':Strs w w.heap.size S m ss) (hm:m≤1048576) :
 Calls Tryz.prog 113 #[.agg #[.slice A n c],.string nm,.slice S m q] w fun e w'=>e=.returned (.int .i64 (zF0 nm ss fs))∧Below w.heap.size w w':=by
 have Hh:=zh h;have Hlen:=zh h.1;have hn:n≤1048576:=by rw[←h.1];exact hs.1
 have hl0:fs.length=n:=h.1;have Hst:=zh h';have Hsl:Hid (ss.length=m):=h'.1;have HALL:Hid (zF0 nm ss (fs.take n)=zF0 nm ss fs):=by unfold Hid;rw[List.take_of_length_le (by omega)]
 have HSN:Hid (∀k,k<n→zF0 nm ss (fs.take (k+1))=wW nm ss (fs.getD k default) (zF0 nm ss (fs.take k))):=fun k hk=>zEM nm ss fs k (by omega);clear h hs h' hl0;generalize zF0 nm ss fs=OUT at *;generalize hD:(fun k=>zF0 nm ss (fs.take k))=D at *;have HD:Hid (∀k,zF0 nm ss (fs.take k)=D k):=by subst hD;exact fun _=>rfl
 have HD0:Hid (D 0=0):=by subst hD;rfl
 clear hD;have HS2:Hid (∀k,k<n→D (k+1)=wW nm ss (fs.getD k default) (D k)):=fun k hk=>by rw[←HD.out,←HD.out];exact HSN.out k hk
 have HA2:Hid (D n=OUT):=by unfold Hid;rw[←HD.out];exact HALL.out
 clear HSN HALL HD;go_enter Tryz.func113,Tryz.ntmps113;go_wp2_with fail;go_loopw [7,8] (fun o i wr=>∃(k:Nat) (z:Int),k≤n∧o=.int .i64 z∧i=.int .i64 k∧Hid (z=D k)∧0≤z∧z≤20+k∧Below (w.heap.size+1) (w.alloc (.cells #[.slice A n c] 26)) wr) (fun _ i _=>n-(intOf i).toNat);case atStart=>exact⟨0,0,Nat.zero_le _,rfl,rfl,HD0.out.symm,by omega,by omega,Below.refl _ _⟩
 case round =>
  obtain⟨k,z,hk,rfl,rfl,HZ,hz0,hz1,hb⟩:=hrel;have p0:=(Blk.later (heap_alloc_new w _) hb (by omega)).cell 0;have hzz:w.heap.size<wr.heap.size:=by have:=hb.size;simp at this;omega
  have HB:=zh hb;have HBw:=zh ((Below.new _ _).trans (hb.mono (by omega)));simp at p0;clear hb;by_cases hlt:k<n
  · have hki:(k:Int)<(n:Int):=by omega
    obtain⟨bb,o,rfl,hbB,hc⟩:=(Hh.out.later HBw.out).2 (by omega);obtain⟨c0,c1,c2,k0,k1,k2,hr⟩:=hc k hlt;have HSK:=zh (HS2.out k hlt);clear hc;generalize fs.getD k default=d at *;have HKI:=zh (fun W (hW:Below wr.heap.size wr W)=>zEA c0 c1 c2 S m q d nm ss W (hr.later hW) (Hst.out.later (HBw.out.later hW)) hm);obtain⟨e0,⟨A1,n1,cap1,e1,hs1,hcap1⟩,e2⟩:=hr;have HDN:Hid (wW nm ss d z=if inN nm ss d=true then (if n1=m then z+1 else if z<10 then z+10 else z) else z):=by unfold Hid wW;rw[hs1.1,Hsl.out]
    have HN:Hid (D (k+1)=wW nm ss d z):=by unfold Hid;rw[HSK.out,←HZ.out]
    subst e0 e1 e2;clear hs1 HSK;generalize inN nm ss d=y at *;generalize wW nm ss d z=zn at *;go_wp2_with fail;refine(HKI.out _ (by first | exact Below.refl _ _ | exact(Below.refl _ _).drew | exact vA (Below.refl _ _) _)).mono ?_;rintro e w1 ⟨rfl,hb1'⟩;have hb1:Below wr.heap.size wr w1:=by first | exact hb1' | exact zD0 hb1' | exact zEX hb1'
    have HB1:=zh (HB.out.trans (hb1.mono (by omega)));have p1:=cell_later hb1 p0;have l0:=cell_later hb1 k0;have l1:=cell_later hb1 k1;have l2:=cell_later hb1 k2;clear hb1 hb1' p0 k0 k1 k2 HKI;cases y
    · have HE:Hid (z=D (k+1)):=by unfold Hid;rw[HN.out,HDN.out,if_neg (by decide)]
      go_wp2_with fail;go_roundw;case rel=>exact⟨k+1,z,by omega,rfl,by go_num,HE.out,hz0,by omega,HB1.out⟩
      case measure=>simp[intOf];omega
    · by_cases hnm:n1=m
      · have HE:Hid (z+1=D (k+1)):=by unfold Hid;rw[HN.out,HDN.out,if_pos rfl,if_pos hnm]
        subst hnm;have hwz:IntKind.i64.wrap (z+1)=z+1:=by rw[IntKind.wrap_i64];omega
        go_wp2_with fail;go_roundw;case rel=>exact⟨k+1,z+1,by omega,by go_num,by go_num,HE.out,by omega,by omega,HB1.out⟩
        case measure=>simp[intOf];omega
      · have hnb:((n1:Int)==(m:Int))=false:=by rw[beq_eq_false_iff_ne];omega
        have hnb2:(n1==m)=false:=by rw[beq_eq_false_iff_ne];exact hnm
        by_cases hz10:z<10
        · have HE:Hid (z+10=D (k+1)):=by unfold Hid;rw[HN.out,HDN.out,if_pos rfl,if_neg hnm,if_pos hz10]
          have hwz:IntKind.i64.wrap (z+10)=z+10:=by rw[IntKind.wrap_i64];omega
          go_wp2_with fail;go_roundw;case rel=>exact⟨k+1,z+10,by omega,by go_num,by go_num,HE.out,by omega,by omega,HB1.out⟩
          case measure=>simp[intOf];omega
        · have HE:Hid (z=D (k+1)):=by unfold Hid;rw[HN.out,HDN.out,if_pos rfl,if_neg hnm,if_neg hz10]
          go_wp2_with fail;go_roundw;case rel=>exact⟨k+1,z,by omega,rfl,by go_num,HE.out,hz0,by omega,HB1.out⟩
          case measure=>simp[intOf];omega
  · obtain rfl:k=n:=by omega
    have HE:Hid (z=OUT):=by unfold Hid;rw[HZ.out,HA2.out]
    go_wp2_with fail;go_ret;exact⟨by first | rfl | (rw[HE.out];rfl),HBw.out⟩
set_option maxRecDepth 100000 in
theorem zIb (A:Option Addr) (n c:Nat) (fs:List NodeD) (nm:ByteArray) (S:Option Addr) (m q:Nat) (ss:List ByteArray) (w:World) (h:Nodes w w.heap.size A n fs) (hs:yC fs) (h':Strs w w.heap.size S m ss) (hm:m≤1048576) (hnm:nm.size≤1048576) (hz:∀s∈ss,s.size≤1048576) :
 Calls Tryz.prog 42 #[.agg #[.slice A n c],.string nm,.slice S m q] w fun e w'=>e=.returned (.int .i64 (zGF fs nm ss))∧Below w.heap.size w w':=by
 have HK1:=zh (fun W (hW:Below w.heap.size w W)=>vF A n c fs W (h.later hW) hs);have HK2:=zh (fun W (hW:Below w.heap.size w W)=>xK nm S m q ss W hnm (h'.later hW) hm hz);have HK3:=zh (fun W (hW:Below w.heap.size w W)=>zGp A n c fs nm S m q ss W (h.later hW) hs (h'.later hW) hm);have HR:Hid (zGF fs nm ss=if (xA fs&&wD nm ss)=true then zF0 nm ss fs else 0):=rfl;clear h h' hs hz;generalize zGF fs nm ss=R at *;generalize xA fs=x at *;generalize wD nm ss=y at *;generalize zF0 nm ss fs=z at *;have HBX:Hid (Below w.heap.size w (w.alloc (.cells #[.slice A n c] 26))):=Below.new _ _;go_enter Tryz.func42,Tryz.ntmps42;go_wp2_with fail;refine(HK1.out _ (by exact HBX.out)).mono ?_;rintro e w1 ⟨rfl,hb1⟩;have HB1:=zh (HBX.out.later hb1);have p0:=(Blk.later (heap_alloc_new w (.cells #[.slice A n c] 26)) hb1 (by simp)).cell 0;simp at p0;clear hb1;cases x
 · go_wp2_with fail;go_ret;exact⟨by rw[HR.out];rfl,HB1.out⟩
 · go_wp2_with fail;refine(HK2.out _ HB1.out).mono ?_;rintro e w2 ⟨rfl,rfl⟩;cases y
   · go_wp2_with fail;go_ret;exact⟨by rw[HR.out];rfl,HB1.out⟩
   · go_wp2_with fail;refine(HK3.out _ HB1.out).mono ?_;rintro e w3 ⟨rfl,hb3⟩;go_wp2_with fail;go_ret;exact⟨by rw[HR.out];rfl,HB1.out.later hb3⟩
end Go.Proofs.YtgmaamnofhmecaaGreatDoor
