import Derived.Test.YtfpcjhajjejpdaaGreatDoorY15
import Derived.Test.YtfpcjhajjejpdaaGreatDoorY24
set_option maxHeartbeats 4000000
open Go.Lib renaming hid → zh
namespace Go.Proofs.YtfpcjhajjejpdaaGreatDoor
open Go.RowKit
set_option linter.unusedVariables false
theorem zLu (nm:ByteArray) (ss:List ByteArray) (fs:List NodeD) (k:Nat) (hk:k<fs.length):zAq nm ss (fs.take (k+1))=zAp nm ss (fs.getD k default) (zAq nm ss (fs.take k)):=by
 unfold zAq;rw[List.take_add_one,List.getElem?_eq_getElem hk,List.foldl_append,List.getD_eq_getElem?_getD,List.getElem?_eq_getElem hk];rfl
theorem zKJ (nm:ByteArray) (ss:List ByteArray):∀(l:List NodeD) (o:Int) (m:Nat),0≤o→o≤20+m→0≤l.foldl (fun out d=>zAp nm ss d out) o∧l.foldl (fun out d=>zAp nm ss d out) o≤20+m+l.length
 | [],o,m,h0,h1=>⟨h0,by simp;exact h1⟩
 | d::t,o,m,h0,h1=>by
   have hd:0≤zAp nm ss d o∧zAp nm ss d o≤20+((m+1:Nat):Int):=by
    unfold zAp;split
    · split
      · omega
      · split <;> omega
    · omega
   have h:=zKJ nm ss t (zAp nm ss d o) (m+1) hd.1 hd.2;rw[List.foldl_cons,List.length_cons];refine⟨h.1,?_⟩;have:=h.2
   push_cast at this ⊢
   omega
set_option maxRecDepth 100000 in
theorem zIk (A:Option Addr) (n c:Nat) (fs:List NodeD) (nm:ByteArray) (S:Option Addr) (m q:Nat) (ss:List ByteArray) (w:World) (h:Nodes w w.heap.size A n fs) (hs:vC fs) (h':Strs w w.heap.size S m ss) (hm:m≤1048576) :
 Calls Tryz.prog 133 #[.agg #[.slice A n c],.string nm,.slice S m q] w fun e w'=>e=.returned (.int .i64 (zAq nm ss fs))∧Below w.heap.size w w':=by
 have Hh:=zh h;have Hlen:=zh h.1;have hn:n≤1048576:=by rw[←h.1];exact hs.1
 have hl0:fs.length=n:=h.1;have Hst:=zh h';have Hsl:Hid (ss.length=m):=h'.1;have HALL:Hid (zAq nm ss (fs.take n)=zAq nm ss fs):=by unfold Hid;rw[List.take_of_length_le (by omega)]
 have HSN:Hid (∀k,k<n→zAq nm ss (fs.take (k+1))=zAp nm ss (fs.getD k default) (zAq nm ss (fs.take k))):=fun k hk=>zLu nm ss fs k (by omega);clear h hs h' hl0;generalize zAq nm ss fs=OUT at *;generalize hD:(fun k=>zAq nm ss (fs.take k))=D at *;have HD:Hid (∀k,zAq nm ss (fs.take k)=D k):=by subst hD;exact fun _=>rfl
 have HD0:Hid (D 0=0):=by subst hD;rfl
 clear hD;have HS2:Hid (∀k,k<n→D (k+1)=zAp nm ss (fs.getD k default) (D k)):=fun k hk=>by rw[←HD.out,←HD.out];exact HSN.out k hk
 have HA2:Hid (D n=OUT):=by unfold Hid;rw[←HD.out];exact HALL.out
 clear HSN HALL HD;go_enter Tryz.func133,Tryz.ntmps133;go_wp2_with fail;go_loopw [7,8] (fun o i wr=>∃(k:Nat) (z:Int),k≤n∧o=.int .i64 z∧i=.int .i64 k∧Hid (z=D k)∧0≤z∧z≤20+k∧Below (w.heap.size+1) (w.alloc (.cells #[.slice A n c] 26)) wr) (fun _ i _=>n-(intOf i).toNat);case atStart=>exact⟨0,0,Nat.zero_le _,rfl,rfl,HD0.out.symm,by omega,by omega,Below.refl _ _⟩
 case round =>
  obtain⟨k,z,hk,rfl,rfl,HZ,hz0,hz1,hb⟩:=hrel;have p0:=(Blk.later (heap_alloc_new w _) hb (by omega)).cell 0;have hzz:w.heap.size<wr.heap.size:=by have:=hb.size;simp at this;omega
  have HB:=zh hb;have HBw:=zh ((Below.new _ _).trans (hb.mono (by omega)));simp at p0;clear hb;by_cases hlt:k<n
  · have hki:(k:Int)<(n:Int):=by omega
    obtain⟨bb,o,rfl,hbB,hc⟩:=(Hh.out.later HBw.out).2 (by omega);obtain⟨c0,c1,c2,k0,k1,k2,hr⟩:=hc k hlt;have HSK:=zh (HS2.out k hlt);clear hc;generalize fs.getD k default=d at *;have HKI:=zh (fun W (hW:Below wr.heap.size wr W)=>zGs c0 c1 c2 S m q d nm ss W (hr.later hW) (Hst.out.later (HBw.out.later hW)) hm);obtain⟨e0,⟨A1,n1,cap1,e1,hs1,hcap1⟩,e2⟩:=hr;have HDN:Hid (zAp nm ss d z=if inN nm ss d=true then (if n1=m then z+1 else if z<10 then z+10 else z) else z):=by unfold Hid zAp;rw[hs1.1,Hsl.out]
    have HN:Hid (D (k+1)=zAp nm ss d z):=by unfold Hid;rw[HSK.out,←HZ.out]
    subst e0 e1 e2;clear hs1 HSK;generalize inN nm ss d=y at *;generalize zAp nm ss d z=zn at *;go_wp2_with fail;refine(HKI.out _ (by first | exact Below.refl _ _ | exact(Below.refl _ _).drew | exact wA (Below.refl _ _) _)).mono ?_;rintro e w1 ⟨rfl,hb1'⟩;have hb1:Below wr.heap.size wr w1:=by first | exact hb1' | exact wD hb1' | exact zGN hb1'
    have HB1:=zh (HB.out.trans (hb1.mono (by omega)));have p1:=cell_later hb1 p0;have l0:=cell_later hb1 k0;have l1:=cell_later hb1 k1;have l2:=cell_later hb1 k2;clear hb1 hb1' p0 k0 k1 k2 HKI;cases y
    · have HE:Hid (z=D (k+1)):=by unfold Hid;rw[HN.out,HDN.out,if_neg (by decide)]
      go_wp2_with fail;go_roundw;case rel=>exact⟨k+1,z,by omega,rfl,by go_num,HE.out,hz0,by omega,HB1.out⟩
      case measure=>simp[intOf];omega
    · by_cases hnm:n1=m
      · have HE:Hid (z+1=D (k+1)):=by unfold Hid;rw[HN.out,HDN.out,if_pos rfl,if_pos hnm]
        subst hnm;have hwz:IntKind.i64.wrap (z+1)=z+1:=by rw[IntKind.wrap_i64];omega
        go_wp2_with fail;go_roundw;case rel=>exact⟨k+1,z+1,by omega,by go_num,by go_num,HE.out,by omega,by omega,HB1.out⟩
        case measure=>simp[intOf];omega
      · have hnb:((n1:Int)==(m:Int))=false:=by rw[beq_eq_false_iff_ne];omega
        have hnb2:(n1==m)=false:=by rw[beq_eq_false_iff_ne];exact hnm
        by_cases hz10:z<10
        · have HE:Hid (z+10=D (k+1)):=by unfold Hid;rw[HN.out,HDN.out,if_pos rfl,if_neg hnm,if_pos hz10]
          have hwz:IntKind.i64.wrap (z+10)=z+10:=by rw[IntKind.wrap_i64];omega
          go_wp2_with fail;go_roundw;case rel=>exact⟨k+1,z+10,by omega,by go_num,by go_num,HE.out,by omega,by omega,HB1.out⟩
          case measure=>simp[intOf];omega
        · have HE:Hid (z=D (k+1)):=by unfold Hid;rw[HN.out,HDN.out,if_pos rfl,if_neg hnm,if_neg hz10]
          go_wp2_with fail;go_roundw;case rel=>exact⟨k+1,z,by omega,rfl,by go_num,HE.out,hz0,by omega,HB1.out⟩
          case measure=>simp[intOf];omega
  · obtain rfl:k=n:=by omega
    have HE:Hid (z=OUT):=by unfold Hid;rw[HZ.out,HA2.out]
    go_wp2_with fail;go_ret;exact⟨by first | rfl | (rw[HE.out];rfl),HBw.out⟩
set_option maxRecDepth 100000 in
theorem zKj (A:Option Addr) (n c:Nat) (fs:List NodeD) (nm:ByteArray) (S:Option Addr) (m q:Nat) (ss:List ByteArray) (w:World) (h:Nodes w w.heap.size A n fs) (hs:vC fs) (h':Strs w w.heap.size S m ss) (hm:m≤1048576) (hnm:nm.size≤1048576) (hz:∀s∈ss,s.size≤1048576) :
 Calls Tryz.prog 61 #[.agg #[.slice A n c],.string nm,.slice S m q] w fun e w'=>e=.returned (.int .i64 (zDf fs nm ss))∧Below w.heap.size w w':=by
 have HK1:=zh (fun W (hW:Below w.heap.size w W)=>zL0 A n c fs W (h.later hW) hs);have HK2:=zh (fun W (hW:Below w.heap.size w W)=>wW nm S m q ss W hnm (h'.later hW) hm hz);have HK3:=zh (fun W (hW:Below w.heap.size w W)=>zIk A n c fs nm S m q ss W (h.later hW) hs (h'.later hW) hm);have HR:Hid (zDf fs nm ss=if (uA fs&&zI0 nm ss)=true then zAq nm ss fs else 0):=rfl;clear h h' hs hz;generalize zDf fs nm ss=R at *;generalize uA fs=x at *;generalize zI0 nm ss=y at *;generalize zAq nm ss fs=z at *;have HBX:Hid (Below w.heap.size w (w.alloc (.cells #[.slice A n c] 26))):=Below.new _ _;go_enter Tryz.func61,Tryz.ntmps61;go_wp2_with fail;refine(HK1.out _ (by exact HBX.out)).mono ?_;rintro e w1 ⟨rfl,hb1⟩;have HB1:=zh (HBX.out.later hb1);have p0:=(Blk.later (heap_alloc_new w (.cells #[.slice A n c] 26)) hb1 (by simp)).cell 0;simp at p0;clear hb1;cases x
 · go_wp2_with fail;go_ret;exact⟨by rw[HR.out];rfl,HB1.out⟩
 · go_wp2_with fail;refine(HK2.out _ HB1.out).mono ?_;rintro e w2 ⟨rfl,rfl⟩;cases y
   · go_wp2_with fail;go_ret;exact⟨by rw[HR.out];rfl,HB1.out⟩
   · go_wp2_with fail;refine(HK3.out _ HB1.out).mono ?_;rintro e w3 ⟨rfl,hb3⟩;go_wp2_with fail;go_ret;exact⟨by rw[HR.out];rfl,HB1.out.later hb3⟩
end Go.Proofs.YtfpcjhajjejpdaaGreatDoor
