import Derived.Test.YtgmaamnofhmecaaGreatDoorV18
import Derived.Test.YtgmaamnofhmecaaGreatDoorV35
import Derived.Deep.RegionHeld3
set_option maxHeartbeats 4000000
open Go.Lib renaming hid → zh
namespace Go.Proofs.YtgmaamnofhmecaaGreatDoor
open Go.RowKit
set_option linter.unusedVariables false
theorem zJJ (nm:ByteArray) (ss:List ByteArray) (fs:List NodeD) (k:Nat) (hk:k<fs.length):uW nm ss (fs.take (k+1))=yQ nm ss (fs.getD k default) (uW nm ss (fs.take k)):=by
 unfold uW;rw[List.take_add_one,List.getElem?_eq_getElem hk,List.foldl_append,List.getD_eq_getElem?_getD,List.getElem?_eq_getElem hk];rfl
theorem zJj (nm:ByteArray) (ss:List ByteArray):∀(l:List NodeD) (o:Int) (m:Nat),0≤o→o≤20+m→0≤l.foldl (fun out d=>yQ nm ss d out) o∧l.foldl (fun out d=>yQ nm ss d out) o≤20+m+l.length
 | [],o,m,h0,h1=>⟨h0,by simp;exact h1⟩
 | d::t,o,m,h0,h1=>by
   have hd:0≤yQ nm ss d o∧yQ nm ss d o≤20+((m+1:Nat):Int):=by
    unfold yQ;split
    · split
      · omega
      · split <;> omega
    · omega
   have h:=zJj nm ss t (yQ nm ss d o) (m+1) hd.1 hd.2;rw[List.foldl_cons,List.length_cons];refine⟨h.1,?_⟩;have:=h.2
   push_cast at this ⊢
   omega
set_option maxRecDepth 100000 in
theorem zGS (A:Option Addr) (n c:Nat) (fs:List NodeD) (nm:ByteArray) (S:Option Addr) (m q:Nat) (ss:List ByteArray) (w:World) (h:Nodes w w.heap.size A n fs) (hs:wB fs) (h':Strs w w.heap.size S m ss) (hm:m≤1048576) :
 Calls Tryz.prog 113 #[.agg #[.slice A n c],.string nm,.slice S m q] w fun e w'=>e=.returned (.int .i64 (uW nm ss fs))∧Below w.heap.size w w':=by
 have Hh:=zh h;have Hlen:=zh h.1;have hn:n≤1048576:=by rw[←h.1];exact hs.1
 have hl0:fs.length=n:=h.1;have Hst:=zh h';have Hsl:Hid (ss.length=m):=h'.1;have HALL:Hid (uW nm ss (fs.take n)=uW nm ss fs):=by unfold Hid;rw[List.take_of_length_le (by omega)]
 have HSN:Hid (∀k,k<n→uW nm ss (fs.take (k+1))=yQ nm ss (fs.getD k default) (uW nm ss (fs.take k))):=fun k hk=>zJJ nm ss fs k (by omega);clear h hs h' hl0;generalize uW nm ss fs=OUT at *;generalize hD:(fun k=>uW nm ss (fs.take k))=D at *;have HD:Hid (∀k,uW nm ss (fs.take k)=D k):=by subst hD;exact fun _=>rfl
 have HD0:Hid (D 0=0):=by subst hD;rfl
 clear hD;have HS2:Hid (∀k,k<n→D (k+1)=yQ nm ss (fs.getD k default) (D k)):=fun k hk=>by rw[←HD.out,←HD.out];exact HSN.out k hk
 have HA2:Hid (D n=OUT):=by unfold Hid;rw[←HD.out];exact HALL.out
 clear HSN HALL HD;go_enter Tryz.func113,Tryz.ntmps113;go_wp2_with fail;go_loopw [7,8] (fun o i wr=>∃(k:Nat) (z:Int),k≤n∧o=.int .i64 z∧i=.int .i64 k∧Hid (z=D k)∧0≤z∧z≤20+k∧Below (w.heap.size+1) (w.alloc (.cells #[.slice A n c] 26)) wr) (fun _ i _=>n-(intOf i).toNat);case atStart=>exact⟨0,0,Nat.zero_le _,rfl,rfl,HD0.out.symm,by omega,by omega,Below.refl _ _⟩
 case round =>
  obtain⟨k,z,hk,rfl,rfl,HZ,hz0,hz1,hb⟩:=hrel;have p0:=(Blk.later (heap_alloc_new w _) hb (by omega)).cell 0;have hzz:w.heap.size<wr.heap.size:=by have:=hb.size;simp at this;omega
  have HB:=zh hb;have HBw:=zh ((Below.new _ _).trans (hb.mono (by omega)));simp at p0;clear hb;by_cases hlt:k<n
  · have hki:(k:Int)<(n:Int):=by omega
    obtain⟨bb,o,rfl,hbB,hc⟩:=(Hh.out.later HBw.out).2 (by omega);obtain⟨c0,c1,c2,k0,k1,k2,hr⟩:=hc k hlt;have HSK:=zh (HS2.out k hlt);clear hc;generalize fs.getD k default=d at *;have HKI:=zh (fun W (hW:Below wr.heap.size wr W)=>zFw c0 c1 c2 S m q d nm ss W (hr.later hW) (Hst.out.later (HBw.out.later hW)) hm);obtain⟨e0,⟨A1,n1,cap1,e1,hs1,hcap1⟩,e2⟩:=hr;have HDN:Hid (yQ nm ss d z=if inN nm ss d=true then (if n1=m then z+1 else if z<10 then z+10 else z) else z):=by unfold Hid yQ;rw[hs1.1,Hsl.out]
    have HN:Hid (D (k+1)=yQ nm ss d z):=by unfold Hid;rw[HSK.out,←HZ.out]
    subst e0 e1 e2;clear hs1 HSK;generalize inN nm ss d=y at *;generalize yQ nm ss d z=zn at *;go_wp2_with fail;refine(HKI.out _ (by first | exact Below.refl _ _ | exact(Below.refl _ _).drew | exact yE (Below.refl _ _) _)).mono ?_;rintro e w1 ⟨rfl,hb1'⟩;have hb1:Below wr.heap.size wr w1:=by first | exact hb1' | exact zD0 hb1' | exact zFM hb1'
    have HB1:=zh (HB.out.trans (hb1.mono (by omega)));have p1:=cell_later hb1 p0;have l0:=cell_later hb1 k0;have l1:=cell_later hb1 k1;have l2:=cell_later hb1 k2;clear hb1 hb1' p0 k0 k1 k2 HKI;cases y
    · have HE:Hid (z=D (k+1)):=by unfold Hid;rw[HN.out,HDN.out,if_neg (by decide)]
      go_wp2_with fail;go_roundw;case rel=>exact⟨k+1,z,by omega,rfl,by go_num,HE.out,hz0,by omega,HB1.out⟩
      case measure=>simp[intOf];omega
    · by_cases hnm:n1=m
      · have HE:Hid (z+1=D (k+1)):=by unfold Hid;rw[HN.out,HDN.out,if_pos rfl,if_pos hnm]
        subst hnm;have hwz:IntKind.i64.wrap (z+1)=z+1:=by rw[IntKind.wrap_i64];omega
        go_wp2_with fail;go_roundw;case rel=>exact⟨k+1,z+1,by omega,by go_num,by go_num,HE.out,by omega,by omega,HB1.out⟩
        case measure=>simp[intOf];omega
      · have hnb:((n1:Int)==(m:Int))=false:=by rw[beq_eq_false_iff_ne];omega
        have hnb2:(n1==m)=false:=by rw[beq_eq_false_iff_ne];exact hnm
        by_cases hz10:z<10
        · have HE:Hid (z+10=D (k+1)):=by unfold Hid;rw[HN.out,HDN.out,if_pos rfl,if_neg hnm,if_pos hz10]
          have hwz:IntKind.i64.wrap (z+10)=z+10:=by rw[IntKind.wrap_i64];omega
          go_wp2_with fail;go_roundw;case rel=>exact⟨k+1,z+10,by omega,by go_num,by go_num,HE.out,by omega,by omega,HB1.out⟩
          case measure=>simp[intOf];omega
        · have HE:Hid (z=D (k+1)):=by unfold Hid;rw[HN.out,HDN.out,if_pos rfl,if_neg hnm,if_neg hz10]
          go_wp2_with fail;go_roundw;case rel=>exact⟨k+1,z,by omega,rfl,by go_num,HE.out,hz0,by omega,HB1.out⟩
          case measure=>simp[intOf];omega
  · obtain rfl:k=n:=by omega
    have HE:Hid (z=OUT):=by unfold Hid;rw[HZ.out,HA2.out]
    go_wp2_with fail;go_ret;exact⟨by first | rfl | (rw[HE.out];rfl),HBw.out⟩
set_option maxRecDepth 100000 in
theorem zIH (A:Option Addr) (n c:Nat) (fs:List NodeD) (nm:ByteArray) (S:Option Addr) (m q:Nat) (ss:List ByteArray) (w:World) (h:Nodes w w.heap.size A n fs) (hs:wB fs) (h':Strs w w.heap.size S m ss) (hm:m≤1048576) (hnm:nm.size≤1048576) (hz:∀s∈ss,s.size≤1048576) :
 Calls Tryz.prog 42 #[.agg #[.slice A n c],.string nm,.slice S m q] w fun e w'=>e=.returned (.int .i64 (zBw fs nm ss))∧Below w.heap.size w w':=by
 have HK1:=zh (fun W (hW:Below w.heap.size w W)=>uG A n c fs W (h.later hW) hs);have HK2:=zh (fun W (hW:Below w.heap.size w W)=>wT nm S m q ss W hnm (h'.later hW) hm hz);have HK3:=zh (fun W (hW:Below w.heap.size w W)=>zGS A n c fs nm S m q ss W (h.later hW) hs (h'.later hW) hm);have HR:Hid (zBw fs nm ss=if (xA fs&&wC nm ss)=true then uW nm ss fs else 0):=rfl;clear h h' hs hz;generalize zBw fs nm ss=R at *;generalize xA fs=x at *;generalize wC nm ss=y at *;generalize uW nm ss fs=z at *;have HBX:Hid (Below w.heap.size w (w.alloc (.cells #[.slice A n c] 26))):=Below.new _ _;go_enter Tryz.func42,Tryz.ntmps42;go_wp2_with fail;refine(HK1.out _ (by exact HBX.out)).mono ?_;rintro e w1 ⟨rfl,hb1⟩;have HB1:=zh (HBX.out.later hb1);have p0:=(Blk.later (heap_alloc_new w (.cells #[.slice A n c] 26)) hb1 (by simp)).cell 0;simp at p0;clear hb1;cases x
 · go_wp2_with fail;go_ret;exact⟨by rw[HR.out];rfl,HB1.out⟩
 · go_wp2_with fail;refine(HK2.out _ HB1.out).mono ?_;rintro e w2 ⟨rfl,rfl⟩;cases y
   · go_wp2_with fail;go_ret;exact⟨by rw[HR.out];rfl,HB1.out⟩
   · go_wp2_with fail;refine(HK3.out _ HB1.out).mono ?_;rintro e w3 ⟨rfl,hb3⟩;go_wp2_with fail;go_ret;exact⟨by rw[HR.out];rfl,HB1.out.later hb3⟩
end Go.Proofs.YtgmaamnofhmecaaGreatDoor
namespace Go.Proofs.YtgmaamnofhmecaaGreatDoor
open Go
set_option linter.unusedVariables false
section
variable {P:Program} {ops:Array Oper} {Q:Exit→Act→World→Prop} {md:Region.Mode} {S:World→Prop} {z:Nat}
def uZ (P:Program) (md:Region.Mode) (ops:Array Oper) (Q:Exit→Act→World→Prop) (S:World→Prop) (z:Nat):Nat→Array Bool→Act→World→Prop
 | 0,listed,a,w=>Region.ready md ops listed=[]∧Q .normal a w
 | fuel+1,listed,a,w =>
   (Region.ready md ops listed=[]→Q .normal a w) ∧
   ∀i∈Region.ready md ops listed,wpOp P ops Q i (fun a' w'=>(i≠z→S w')∧uZ P md ops Q S z fuel (listed.setIfInBounds i true) a' w') a w
theorem zFg:∀(fuel:Nat) (listed:Array Bool) (a:Act) (w:World),uZ P md ops Q S z fuel listed a w→wpAny P md ops Q fuel listed a w
 | 0,_,_,_,h=>h
 | fuel+1,_,_,_,h=>⟨h.1,fun i hi=>wpOp_mono (fun a' w' h'=>zFg fuel _ a' w' h'.2) (h.2 i hi)⟩
def zBM (md:Region.Mode) (ops:Array Oper) (listed:Array Bool):Prop:=∀k ok,ops[k]?=some ok→listed.getD k true=true→∀e∈ok.after,Region.binds md e=true→listed.getD e.on false=true
theorem zHr {listed:Array Bool} {j:Nat} (h:zBM md ops listed) (hj:j∈Region.ready md ops listed):zBM md ops (listed.setIfInBounds j true):=fun k ok hk hl e he hb=>by
 by_cases hjk:j=k
 · subst hjk;obtain⟨_,o,ho,hall⟩:=mem_ready.1 hj;rw[hk]at ho;cases ho;exact getD_set_true (hall e he hb)
 · rw[getD_set_ne true hjk]at hl;exact getD_set_true (h k ok hk hl e he hb)
def zBn (md:Region.Mode) (ops:Array Oper):List Nat→Bool
 | a::b::r=>((ops[a]?).map fun o=>o.after.any fun e=>Region.binds md e&&e.on==b).getD false&&zBn md ops (b::r)
 | _=>true
theorem zCv {a b:Nat} {o:Oper} (ho:ops[a]?=some o) (h:(((ops[a]?).map fun o=>o.after.any fun e=>Region.binds md e&&e.on==b).getD false)=true):∃e∈o.after,Region.binds md e=true∧e.on=b:=by
 rw[ho]at h;simp only[Option.map_some,Option.getD_some]at h;obtain⟨e,he,hb⟩:=Array.any_eq_true'.1 h;simp only[Bool.and_eq_true,beq_iff_eq]at hb;exact⟨e,he,hb.1,hb.2⟩
theorem zEy {listed:Array Bool} {k:Nat} (h:listed.getD k false=true):listed.getD k true=true:=by
 rcases Nat.lt_or_ge k listed.size with h' | h'
 · simpa [h'] using h
 · simp[Array.getElem?_eq_none h']at h
theorem zDu {listed:Array Bool} (hc:zBM md ops listed):∀(l:List Nat) (a i:Nat),listed.getD a true=true→(∃o,ops[a]?=some o)→zBn md ops (a::(l++[i]))=true→(∀k∈l,∃o,ops[k]?=some o)→listed.getD i false=true
 | [],a,i,ha,⟨o,ho⟩,h,_=>by simp only[List.nil_append,zBn,Bool.and_true]at h;obtain⟨e,he,hb,rfl⟩:=zCv ho h;exact hc a o ho ha e he hb
 | b::l,a,i,ha,⟨o,ho⟩,h,hl=>by rw[List.cons_append,zBn,Bool.and_eq_true]at h;obtain⟨e,he,hb,rfl⟩:=zCv ho h.1;exact zDu hc l e.on i (zEy (hc a o ho ha e he hb)) (hl _ (List.mem_cons_self ..)) h.2 (fun k hk=>hl k (List.mem_cons_of_mem _ hk))
theorem zHY {listed:Array Bool} (hc:zBM md ops listed) {b i:Nat} (l:List Nat) (hz:z∈Region.ready md ops listed) (h:zBn md ops (z::(l++[i]))=true) (hl:∀k∈l,∃o,ops[k]?=some o):listed.getD i false=true:=by
 obtain⟨_,o,ho,hall⟩:=mem_ready.1 hz
 match l,h,hl with
 | [],h,_=>simp only[List.nil_append,zBn,Bool.and_true]at h;obtain⟨e,he,hb,rfl⟩:=zCv ho h;exact hall e he hb
 | b::l,h,hl=>rw[List.cons_append,zBn,Bool.and_eq_true]at h;obtain⟨e,he,hb,rfl⟩:=zCv ho h.1;exact zDu hc l e.on i (zEy (hall e he hb)) (hl _ (List.mem_cons_self ..)) h.2 (fun k hk=>hl k (List.mem_cons_of_mem _ hk))
theorem zGr {i:Nat} {oi:Oper} {v:Value} (l:List Nat) (hp:zBn md ops (z::(l++[i]))=true) (hl:∀k∈l,∃o,ops[k]?=some o)
 (hi:ops[i]?=some oi) (hsel:∀(j:Nat) (o:Oper) cs b,ops[j]?=some o→o.op≠.select cs b)
 (hQ:∀c a w,Q (.panic c) (a.put oi.dst v) w→Q (.panic c) a w) :
 ∀(fuel:Nat) (listed:Array Bool) (a:Act) (w:World),
  (∀j oj,ops[j]?=some oj→j≠i→listed.getD j true=false→(∀e∈oj.after,Region.binds md e=true→e.on≠i)→oi.apart ops oj=true) →
  i∈Region.ready md ops listed→zBM md ops listed→YieldsIf P ops S oi v a→S w →
  uZ P md ops Q S z fuel (listed.setIfInBounds i true) (a.put oi.dst v) w→uZ P md ops Q S z (fuel+1) listed a w:=by
 have hno:∀listed:Array Bool,listed.getD i true=false→listed.getD i false=true→False:=fun listed h1 h2=>by rw[zEy h2]at h1;cases h1
 intro fuel
 induction fuel with
 | zero =>
   intro listed a w _ hr hc hy hS H;refine⟨fun h=>(by rw[h]at hr;cases hr),fun j hj=>?_⟩;by_cases hji:j=i
   · subst hji;exact hy.wpOp hi hS ⟨fun _=>hS,H⟩
   · have:=ready_mono hj hji;rw[H.1]at this;cases this
 | succ fuel ih =>
   intro listed a w hfree hr hc hy hS H;refine⟨fun h=>(by rw[h]at hr;cases hr),fun j hj=>?_⟩;by_cases hji:j=i
   · subst hji;exact hy.wpOp hi hS ⟨fun _=>hS,H⟩
   · have hjz:j≠z:=fun e=>by subst e;exact hno listed (mem_ready.1 hr).1 (zHY (b:=0) hc l hj hp hl)
     obtain⟨hjun,oj,hoj,hall⟩:=mem_ready.1 hj;have hnot:∀e∈oj.after,Region.binds md e=true→e.on≠i:=fun e he hb heq=>by have h1:=hall e he hb;rw[heq]at h1;exact hno listed (mem_ready.1 hr).1 h1
     have h2:=wpOp_putIf hoj (hfree j oj hoj hji hjun hnot) (fun cs b=>hsel i oi cs b hi) (fun cs b=>hsel j oj cs b hoj) hQ hy (H.2 j (ready_mono hj hji));refine wpOp_mono (fun a' w' h3=>?_) h2;obtain⟨hy',hS',hW⟩:=h3;rw[Array.setIfInBounds_comm _ _ (Ne.symm hji)]at hW
     exact⟨fun _=>hS' hjz,ih (listed.setIfInBounds j true) a' w' (fun k ok hk hki hun hno'=>by
      refine hfree k ok hk hki ?_ hno';by_cases hjk:j=k
      · subst hjk;exact hjun
      · rw[getD_set_ne true hjk]at hun;exact hun) (ready_mono hr (Ne.symm hji)) (zHr hc hj) hy' (hS' hjz) hW⟩
def zCI (md:Region.Mode) (ops:Array Oper) (listed:Array Bool):Bool:=(List.range ops.size).all fun k=>!listed.getD k true||((ops[k]?).map fun o=>o.after.all fun e=>!Region.binds md e||listed.getD e.on false).getD true
theorem zJO {listed:Array Bool} (h:zCI md ops listed=true):zBM md ops listed:=fun k ok hk hl e he hb=>by
 unfold zCI at h;rw[List.all_eq_true]at h;have h1:=h k (List.mem_range.2 (Array.getElem?_eq_some_iff.1 hk).1);rw[hk,hl]at h1;simp only[Bool.not_true,Bool.false_or,Option.map_some,Option.getD_some]at h1;have h2:=Array.all_eq_true_iff_forall_mem.1 h1 e he;rw[hb]at h2;simpa using h2
def zHL (ops:Array Oper) (l:List Nat):Bool:=l.all fun k=>decide (k<ops.size)
theorem zDV {i:Nat} {oi:Oper} {v:Value} {fuel:Nat} {listed:Array Bool} {a:Act} {w:World} (l:List Nat) (hp:(zBn md ops (z::(l++[i]))&&zHL ops l&&zCI md ops listed)=true) (hi:ops[i]?=some oi)
 (hs:Region.noSelect ops=true) (hf:Region.free md ops listed i=true) (hr:(Region.ready md ops listed).contains i=true)
 (hQ:∀c a w,Q (.panic c) (a.put oi.dst v) w→Q (.panic c) a w) (hy:YieldsIf P ops S oi v a) (hS:S w)
 (h:uZ P md ops Q S z fuel (listed.setIfInBounds i true) (a.put oi.dst v) w):uZ P md ops Q S z (fuel+1) listed a w:=by
 rw[Bool.and_eq_true,Bool.and_eq_true]at hp;refine zGr l hp.1.1 (fun k hk=>?_) hi (Region.noSelect_spec hs) hQ fuel listed a w (Region.free_spec hi hf) (by simpa using hr) (zJO hp.2) hy hS h;have h1:=List.all_eq_true.1 hp.1.2 k hk;exact⟨ops[k]'(of_decide_eq_true h1),Array.getElem?_eq_getElem _⟩
theorem yS {listed:Array Bool} {a:Act} {w:World} (hr:Region.ready md ops listed=[]) (h:Q .normal a w):∀fuel,uZ P md ops Q S z fuel listed a w
 | 0=>⟨hr,h⟩
 | _+1=>⟨fun _=>h,by rw[hr];simp⟩
def AllReadyE (P:Program) (md:Region.Mode) (ops:Array Oper) (Q:Exit→Act→World→Prop) (S:World→Prop) (z fuel:Nat) (listed:Array Bool) (a:Act) (w:World) (rs:List Nat):Prop :=
 ∀i∈rs,wpOp P ops Q i (fun a' w'=>(i≠z→S w')∧uZ P md ops Q S z fuel (listed.setIfInBounds i true) a' w') a w
theorem AllReadyE.nil {fuel:Nat} {listed:Array Bool} {a:Act} {w:World}:AllReadyE P md ops Q S z fuel listed a w []:=fun _ h=>by cases h
theorem AllReadyE.cons {fuel:Nat} {listed:Array Bool} {a:Act} {w:World} {i:Nat} {o:Oper} {rs:List Nat} (ho:ops[i]?=some o)
 (h:∀K':Act→World→Prop,Shut (∀a w,(i≠z→S w)→((i≠z→S w)→uZ P md ops Q S z fuel (listed.setIfInBounds i true) a w)→K' a w)→if Region.wanted o (yielded ops a.tmps)=true then Oper.wp P o a w K' Q else K' (a.put o.dst undef) w)
 (hs:AllReadyE P md ops Q S z fuel listed a w rs):AllReadyE P md ops Q S z fuel listed a w (i::rs):=fun j hj=>by
 rcases List.mem_cons.1 hj with rfl | hj
 · exact wpOp_step ho (fun K' hK=>h K' (fun a w hS hW=>hK a w ⟨hS,hW hS⟩))
 · exact hs j hj
theorem yH {rs:List Nat} {fuel:Nat} {listed:Array Bool} {a:Act} {w:World} (hr:Region.ready md ops listed=rs) (hne:rs≠[])
 (h:AllReadyE P md ops Q S z fuel listed a w rs):uZ P md ops Q S z (fuel+1) listed a w:=⟨fun h0=>absurd (hr ▸ h0) hne,hr ▸ h⟩
theorem uN {id:Nat} {a:Act} {w:World} (z:Nat) (hm:P.follows .mixedOrders=true) (hS:S w.drew)
 (h:S w.drew→uZ P .any ops Q S z ops.size (Array.replicate ops.size false) a w.drew):(Code.region id ops true).wp P Q a w :=
 wp_region_any hm (zFg _ _ _ _ (h hS))
end
end Go.Proofs.YtgmaamnofhmecaaGreatDoor
namespace Go.Proofs.YtgmaamnofhmecaaGreatDoor
open Go
set_option linter.unusedVariables false
section
variable {P:Program} {ops:Array Oper} {Q:Exit→Act→World→Prop} {md:Region.Mode} {S:World→Prop} {z:Nat}
theorem wt (i:Nat) (v:Value) {oi:Oper} {fuel:Nat} {listed:Array Bool} {a:Act} {w:World} (l:List Nat) (hv:∀w,S w→(execOp a.eval oi).run P w=.ok (.value v) w)
 (h:uZ P md ops Q S z fuel (listed.setIfInBounds i true) (a.put oi.dst v) w) (hi:ops[i]?=some oi:=by rfl)
 (hb:((zBn md ops (z::(l++[i]))&&zHL ops l&&zCI md ops listed)&&(Region.noSelect ops&&(Region.free md ops listed i&&(Region.ready md ops listed).contains i)))=true:=by kernel_rfl)
 (hw:Region.wanted oi (yielded ops a.tmps)=true:=by rfl) (hQ:∀c a w,Q (.panic c) (a.put oi.dst v) w→Q (.panic c) a w:=by exact fun _ _ _ h=>h) (hS:S w:=by assumption):uZ P md ops Q S z (fuel+1) listed a w:=by
 simp only[Bool.and_eq_true]at hb;exact zDV l (by simp only[Bool.and_eq_true];exact hb.1) hi hb.2.1 hb.2.2.1 hb.2.2.2 hQ (Or.inl ⟨hw,hv⟩) hS h
theorem wu (i:Nat) {oi:Oper} {fuel:Nat} {listed:Array Bool} {a:Act} {w:World} (l:List Nat)
 (h:uZ P md ops Q S z fuel (listed.setIfInBounds i true) (a.put oi.dst undef) w) (hi:ops[i]?=some oi:=by rfl)
 (hb:((zBn md ops (z::(l++[i]))&&zHL ops l&&zCI md ops listed)&&(Region.noSelect ops&&(Region.free md ops listed i&&(Region.ready md ops listed).contains i)))=true:=by kernel_rfl)
 (hw:Region.wanted oi (yielded ops a.tmps)=false:=by rfl) (hQ:∀c a w,Q (.panic c) (a.put oi.dst undef) w→Q (.panic c) a w:=by exact fun _ _ _ h=>h) (hS:S w:=by assumption):uZ P md ops Q S z (fuel+1) listed a w:=by
 simp only[Bool.and_eq_true]at hb;exact zDV l (by simp only[Bool.and_eq_true];exact hb.1) hi hb.2.1 hb.2.2.1 hb.2.2.2 hQ (Or.inr ⟨hw,rfl⟩) hS h
end
end Go.Proofs.YtgmaamnofhmecaaGreatDoor
