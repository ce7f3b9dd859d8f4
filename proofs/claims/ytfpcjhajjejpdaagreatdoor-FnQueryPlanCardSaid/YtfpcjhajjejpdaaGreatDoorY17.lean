import Derived.Test.YtfpcjhajjejpdaaGreatDoorY16
import Derived.Test.YtfpcjhajjejpdaaGreatDoorY15
import Derived.Test.YtfpcjhajjejpdaaGreatDoorY10
import Derived.Test.YtfpcjhajjejpdaaGreatDoorProg
import Derived.Ground.GgwProg
import Derived.Ground.Names2Prog
import Derived.Ground.SlgnProg
import Derived.Shelf.GgClosure.StringsIndexFunc
import Derived.Shelf.GgClosure.StringsIndexFuncTop
import Derived.Shelf.LaysM
import Derived.Shelf.Slices.Cells
import Derived.Shelf.Slices.Clone
import Derived.Shelf.Slices.CompactS
import Derived.Shelf.Slices.Empties2
import Derived.Shelf.Slices.Equal
import Derived.Shelf.Slices.In.SortNone
import Derived.Shelf.Slices.Turned
import Derived.Shelf.SlicesE.Clone
import Derived.Shelf.SlicesG.SearchI
import Derived.Shelf.Small.Bits
import Derived.Shelf.Small.Strs
import Derived.Shelf.Small.Utf8
import Derived.Shelf.Small.Wraps
import Derived.Shelf.Sort.Plain
import Derived.Shelf.Strconv.Itoa0
import Derived.Shelf.Strconv.Itoa1
import Derived.Shelf.Strconv.Itoa2
import Derived.Shelf.Strconv.Itoa3
import Derived.Shelf.Strconv.Itoa4
import Derived.Shelf.Strings.AsciiSet
import Derived.Shelf.Strings.Builder1
import Derived.Shelf.Strings.Builder2
import Derived.Shelf.Strings.Count
import Derived.Shelf.Strings.Explode
import Derived.Shelf.Strings.FuncGrows
import Derived.Shelf.Strings.OnBuilder
import Derived.Shelf.Strings.Prefix
import Derived.Shelf.Strings.Replace
import Derived.Shelf.Strings.RuneCount
import Derived.Shelf.Strings.Runes
import Derived.Shelf.Strings.Search1
import Derived.Shelf.Strings.Search2
import Derived.Shelf.Strings.Search3
import Derived.Shelf.Strings.Shaped
import Derived.Shelf.Strings.Split
import Derived.Shelf.Strings.SplitShaped
import Derived.Shelf.Strings.Trim
import Derived.Shelf.Unicode.Decode
import Derived.Shelf.Unicode.DecodeAny
import Derived.Shelf.Unicode.DecodeLast
import Derived.Shelf.Unicode.DecodeSlow
import Derived.Shelf.Utf8.RuneCount
set_option maxHeartbeats 4000000
open Go.Lib renaming hid → zh
namespace Go.Proofs.YtfpcjhajjejpdaaGreatDoor
open Go.RowKit
set_option linter.unusedVariables false
set_option maxRecDepth 100000 in
theorem zHx (c0 c1 c2 c3:Value) (d:ChgD) (w:World) (h:ChgR w w.heap.size c0 c1 c2 c3 d) (hd:d.small) :
 Calls Tryz.prog 147 #[.agg #[c0,c1,c2,c3]] w fun e w'=>e=.returned (.bool (vS d))∧Below w.heap.size w w':=by
 obtain⟨rfl,rfl,⟨S,m,q,rfl,hs,hmq⟩,rfl⟩:=h;have hm:m≤1048576:=by rw[←hs.1];exact hd.2.1.1
 have HKP:=zh (fun W (hW:Below w.heap.size w W)=>wW d.name S m q d.subs W hd.1 (hs.later hW) hm hd.2.1.2);have HR:Hid (vS d=(zI0 d.name d.subs&&((decide (d.kind=1)&&decide (d.val.size≤64))||(decide (d.kind=2)&&decide (d.val=⟨#[]⟩))))):=rfl;have hvs:=hd.2.2;clear hs hd;generalize vS d=R at *;generalize zI0 d.name d.subs=t1 at *;generalize d.name=nm at *;generalize d.val=vl at *;generalize d.kind=kd at *;go_enter Tryz.func147,Tryz.ntmps147;go_wp2_with fail;refine(HKP.out _ (Below.new _ _)).mono ?_;rintro e w2 ⟨rfl,rfl⟩;cases t1
 · have HE:Hid (R=false):=by unfold Hid;rw[HR.out];rfl
   go_wp2_with fail;go_ret;exact⟨zA0 (by first | exact HE.out.symm | (rw[HE.out];first | (simp;done) | (simp;omega) | (rw[Bool.eq_iff_iff];simp))),Below.new _ _⟩
 · by_cases h1:kd=1
   · subst h1;by_cases h64:vl.size≤64
     · have HE:Hid (R=true):=by unfold Hid;rw[HR.out,decide_eq_true h64];rfl
       have h64i:(vl.size:Int)≤64:=by omega
       go_wp2_with fail;go_ret;exact⟨zA0 (by first | exact HE.out.symm | (rw[HE.out];first | (simp;done) | (simp;omega) | (rw[Bool.eq_iff_iff];simp))),Below.new _ _⟩
     · have HE:Hid (R=false):=by unfold Hid;rw[HR.out,decide_eq_false h64];rfl
       have h64i:¬(vl.size:Int)≤64:=by omega
       go_wp2_with fail;go_ret;exact⟨zA0 (by first | exact HE.out.symm | (rw[HE.out];first | (simp;done) | (simp;omega) | (rw[Bool.eq_iff_iff];simp))),Below.new _ _⟩
   · have hb1:(kd==(1:Int))=false:=by rw[beq_eq_false_iff_ne];exact h1
     by_cases h2:kd=2
     · subst h2;by_cases hv:vl=⟨#[]⟩
       · subst hv;have HE:Hid (R=true):=by unfold Hid;rw[HR.out];rfl
         go_wp2_with fail;go_ret;exact⟨zA0 (by first | exact HE.out.symm | (rw[HE.out];first | (simp;done) | (simp;omega) | (rw[Bool.eq_iff_iff];simp))),Below.new _ _⟩
       · have HE:Hid (R=false):=by unfold Hid;rw[HR.out,decide_eq_false hv];rfl
         have hbe:=zB0 hv;have hbe3:=zAh (l:=[]) hv;go_wp2_with fail;go_ret;exact⟨zA0 (by first | exact HE.out.symm | (rw[HE.out];first | (simp;done) | (simp;omega) | (rw[Bool.eq_iff_iff];simp))),Below.new _ _⟩
     · have HE:Hid (R=false):=by unfold Hid;rw[HR.out,decide_eq_false h1,decide_eq_false h2];rfl
       have hb2:(kd==(2:Int))=false:=by rw[beq_eq_false_iff_ne];exact h2
       go_wp2_with fail;go_ret;exact⟨zA0 (by first | exact HE.out.symm | (rw[HE.out];first | (simp;done) | (simp;omega) | (rw[Bool.eq_iff_iff];simp))),Below.new _ _⟩
theorem zMD {d:ChgD} (h:d.small):(⟨d.name,d.subs,d.val⟩:NodeD).small:=h
set_option maxRecDepth 100000 in
theorem zLj (A:Option Addr) (n c:Nat) (c0 c1 c2 c3:Value) (fs:List NodeD) (d:ChgD) (w:World) (h:Nodes w w.heap.size A n fs) (hnc:n≤c) (hs:vC fs) (hn:n<1048576) (h':ChgR w w.heap.size c0 c1 c2 c3 d) (hd:d.small) :
 Calls Tryz.prog 148 #[.agg #[.slice A n c],.agg #[c0,c1,c2,c3]] w (zAJ (doB fs d) w):=by
 obtain⟨rfl,rfl,⟨S,m,q,rfl,hst,hmq⟩,rfl⟩:=h';have hm:m≤1048576:=by rw[←hst.1];exact hd.2.1.1
 have HKU:=zh (fun W (hW:Below w.heap.size w W)=>zEZ A n c fs d.name S m q d.subs d.val W (h.later hW) hnc hs hn (hst.later hW) hmq (zMD hd));have HKK:=zh (fun W (hW:Below w.heap.size w W)=>zEa A n c fs d.name S m q d.subs W (h.later hW) hs (hst.later hW) hm);have HB:Hid (doB fs d=if d.kind=1 then zDw fs d.name d.subs d.val else (0,zBY fs d.name d.subs)):=rfl;clear h hst hd hs;generalize doB fs d=PB at *;generalize zDw fs d.name d.subs d.val=PU at *;generalize zBY fs d.name d.subs=KI at *;generalize d.name=nm at *;generalize d.val=vl at *;generalize d.kind=kd at *;have HB0:=zh (((Below.new w (.cells #[.slice A n c] 26)).later (Below.new _ (.cells #[.int .i64 kd,.string nm,.slice S m q,.string vl] 88))).later (Below.new _ (.cells #[.slice none 0 0] 26)));have HYY:Hid (Blk (((w.alloc (.cells #[.slice A n c] 26)).alloc (.cells #[.int .i64 kd,.string nm,.slice S m q,.string vl] 88)).alloc (.cells #[.slice none 0 0] 26)) (w.heap.size+1+1) 26 #[.slice none 0 0]):=zG0 _ _ _ _;go_enter Tryz.func148,Tryz.ntmps148;by_cases h1:kd=1
 · subst h1;have HE:Hid (PB=PU):=by unfold Hid;rw[HB.out];rfl
   go_wp2_with fail;refine(HKU.out _ HB0.out).mono ?_;rintro e w5 ⟨v5,rfl,hN5,hb5⟩;have HY5:=zh (HYY.out.later hb5 HYY.out.lt);have HB5:=zh (HB0.out.later hb5);obtain⟨A5,cap5,rfl,_,_⟩:=hN5.reads;have HN5:=zh (hN5.base HB0.out.size);have p5:=HY5.out.cell 0;have f5:=HY5.out.frozen 0;have z5:=HY5.out.lt;simp at p5;clear hb5 hN5;go_wp2_with fail;refine bodyPost_ret (v:=.tuple #[.agg #[.slice A5 _ cap5],.int .i64 _]) (by simp[results,Tryz.results148,go_sem,p5];try first | exact rfl | exact⟨rfl,rfl⟩) rfl ?_;exact⟨_,by rw[HE.out],by rw[HE.out];exact HN5.out.setBlk HY5.out (by decide) (by decide),HB5.out.setCell (show w.heap.size≤w.heap.size+1+1 by omega) _⟩
 · have hb1:(kd==(1:Int))=false:=by rw[beq_eq_false_iff_ne];exact h1
   have HE:Hid (PB=(0,KI)):=by unfold Hid;rw[HB.out,if_neg h1]
   go_wp2_with fail;refine(HKK.out _ HB0.out).mono ?_;rintro e w5 ⟨v5,rfl,hN5,hb5⟩;have HY5:=zh (HYY.out.later hb5 HYY.out.lt);have HB5:=zh (HB0.out.later hb5);obtain⟨A5,cap5,rfl,_,_⟩:=hN5.reads;have HN5:=zh (hN5.base HB0.out.size);have p5:=HY5.out.cell 0;have f5:=HY5.out.frozen 0;have z5:=HY5.out.lt;simp at p5;clear hb5 hN5;go_wp2_with fail;refine bodyPost_ret (v:=.tuple #[.agg #[.slice A5 _ cap5],.int .i64 0]) (by simp[results,Tryz.results148,go_sem,p5];try first | exact rfl | exact⟨rfl,rfl⟩) rfl ?_;exact⟨_,by rw[HE.out],by rw[HE.out];exact HN5.out.setBlk HY5.out (by decide) (by decide),HB5.out.setCell (show w.heap.size≤w.heap.size+1+1 by omega) _⟩
set_option maxRecDepth 100000 in
theorem zHv (A:Option Addr) (n c:Nat) (c0 c1 c2 c3:Value) (fs:List NodeD) (d:ChgD) (w:World) (h:Nodes w w.heap.size A n fs) (hnc:n≤c) (hs:vC fs) (h':ChgR w w.heap.size c0 c1 c2 c3 d) (hd:d.small) :
 Calls Tryz.prog 84 #[.agg #[.slice A n c],.agg #[c0,c1,c2,c3]] w (zAJ (zV0 fs d) w):=by
 have HKT:=zh (fun W (hW:Below w.heap.size w W)=>zL0 A n c fs W (h.later hW) hs);have HKC:=zh (fun W (hW:Below w.heap.size w W)=>zHx c0 c1 c2 c3 d W (h'.later hW) hd);have HKD:=zh (fun W (hW:Below w.heap.size w W) (ht:uA fs=true)=>zLj A n c c0 c1 c2 c3 fs d W (h.later hW) hnc hs (by have:=zGc ht;rw[h.1]at this;omega) (h'.later hW) hd);have HB:Hid (zV0 fs d=if (uA fs&&vS d)=true then doB fs d else (1,[])):=rfl;obtain⟨rfl,rfl,⟨S,m,q,rfl,hst,hmq⟩,rfl⟩:=h';clear h hst hs hd;generalize zV0 fs d=PB at *;generalize doB fs d=PU at *;generalize uA fs=t0 at *;generalize vS d=t1 at *;generalize d.name=nm at *;generalize d.val=vl at *;generalize d.kind=kd at *;have HB0:=zh (((Below.new w (.cells #[.slice A n c] 26)).later (Below.new _ (.cells #[.int .i64 kd,.string nm,.slice S m q,.string vl] 88))).later (Below.new _ (.cells #[.slice none 0 0] 26)));have HYY:Hid (Blk (((w.alloc (.cells #[.slice A n c] 26)).alloc (.cells #[.int .i64 kd,.string nm,.slice S m q,.string vl] 88)).alloc (.cells #[.slice none 0 0] 26)) (w.heap.size+1+1) 26 #[.slice none 0 0]):=zG0 _ _ _ _;have HCC:Hid (Blk (((w.alloc (.cells #[.slice A n c] 26)).alloc (.cells #[.int .i64 kd,.string nm,.slice S m q,.string vl] 88)).alloc (.cells #[.slice none 0 0] 26)) (w.heap.size+1) 88 #[.int .i64 kd,.string nm,.slice S m q,.string vl]):=vG _ _ _ _;have HXX:Hid (Blk (((w.alloc (.cells #[.slice A n c] 26)).alloc (.cells #[.int .i64 kd,.string nm,.slice S m q,.string vl] 88)).alloc (.cells #[.slice none 0 0] 26)) w.heap.size 26 #[.slice A n c]):=zK0 _ _ _ _;go_enter Tryz.func84,Tryz.ntmps84;go_wp2_with fail;refine(HKT.out _ HB0.out).mono ?_;rintro e w1 ⟨rfl,hb1⟩;have HB1:=zh (HB0.out.later hb1);have HX:=zh (HXX.out.later hb1 HXX.out.lt);have HY:=zh (HYY.out.later hb1 HYY.out.lt);have HC:=zh (HCC.out.later hb1 HCC.out.lt);have px:=HX.out.cell 0;have py:=HY.out.cell 0;have fy:=HY.out.frozen 0;have zy:=HY.out.lt;have q0:=HC.out.cell 0;have q1:=HC.out.cell 1;have q2:=HC.out.cell 2;have q3:=HC.out.cell 3;simp at px py q0 q1 q2 q3;clear hb1;cases t0
 · have HE:Hid (PB=(1,[])):=by unfold Hid;rw[HB.out];rfl
   go_wp2_with fail;refine bodyPost_ret (v:=.tuple #[.agg #[.slice none 0 0],.int .i64 1]) (by simp[results,Tryz.results84,go_sem,py]) rfl ?_;exact⟨_,by rw[HE.out],by rw[HE.out];exact wK _ _,HB1.out.setCell (show w.heap.size≤w.heap.size+1+1 by omega) _⟩
 · go_wp2_with fail;refine(HKC.out _ HB1.out).mono ?_;rintro e w2 ⟨rfl,hb2⟩;have HB2:=zh (HB1.out.later hb2);have HX2:=zh (HX.out.later hb2 HX.out.lt);have HY2:=zh (HY.out.later hb2 HY.out.lt);have HC2:=zh (HC.out.later hb2 HC.out.lt);clear px py fy zy q0 q1 q2 q3;have px:=HX2.out.cell 0;have py:=HY2.out.cell 0;have fy:=HY2.out.frozen 0;have zy:=HY2.out.lt;have q0:=HC2.out.cell 0;have q1:=HC2.out.cell 1;have q2:=HC2.out.cell 2;have q3:=HC2.out.cell 3;simp at px py q0 q1 q2 q3;clear hb2;cases t1
   · have HE:Hid (PB=(1,[])):=by unfold Hid;rw[HB.out];rfl
     go_wp2_with fail;refine bodyPost_ret (v:=.tuple #[.agg #[.slice none 0 0],.int .i64 1]) (by simp[results,Tryz.results84,go_sem,py]) rfl ?_;exact⟨_,by rw[HE.out],by rw[HE.out];exact wK _ _,HB2.out.setCell (show w.heap.size≤w.heap.size+1+1 by omega) _⟩
   · have HE:Hid (PB=PU):=by unfold Hid;rw[HB.out];rfl
     go_wp2_with fail;refine(HKD.out _ HB2.out (by trivial)).mono ?_;rintro e w5 ⟨v5,rfl,hN5,hb5⟩;have HY5:=zh (HY2.out.later hb5 HY2.out.lt);have HB5:=zh (HB2.out.later hb5);obtain⟨A5,cap5,rfl,_,_⟩:=hN5.reads;have HN5:=zh (hN5.base HB2.out.size);clear px py fy zy q0 q1 q2 q3;have p5:=HY5.out.cell 0;have f5:=HY5.out.frozen 0;have z5:=HY5.out.lt;simp at p5;clear hb5 hN5;go_wp2_with fail;refine bodyPost_ret (v:=.tuple #[.agg #[.slice A5 _ cap5],.int .i64 _]) (by simp[results,Tryz.results84,go_sem,p5];try first | exact rfl | exact⟨rfl,rfl⟩) rfl ?_;exact⟨_,by rw[HE.out],by rw[HE.out];exact HN5.out.setBlk HY5.out (by decide) (by decide),HB5.out.setCell (show w.heap.size≤w.heap.size+1+1 by omega) _⟩
end Go.Proofs.YtfpcjhajjejpdaaGreatDoor
namespace Go.Proofs.YtfpcjhajjejpdaaGreatDoor
open Go.RowKit
set_option linter.unusedVariables false
theorem zLq (fs:List ChgD) (k:Nat) (h:k<fs.length):fs.getD k default∈fs:=by
 rw[List.getD_eq_getElem?_getD,List.getElem?_eq_getElem h];simp
theorem zJR (cs:List ChgD) (k:Nat) (h:k<cs.length):cs.drop k=cs.getD k default::cs.drop (k+1):=by
 rw[List.drop_eq_getElem_cons h,List.getD_eq_getElem?_getD,List.getElem?_eq_getElem h];rfl
set_option maxRecDepth 100000 in
theorem zFY (A:Option Addr) (n c:Nat) (L:Option Addr) (m q:Nat) (fs:List NodeD) (cs:List ChgD) (w:World) (h:Nodes w w.heap.size A n fs) (hs:vC fs) (h':Chgs w w.heap.size L m cs) (hm:m≤1048576) (hd:∀d∈cs,d.small) :
 Calls Tryz.prog 28 #[.agg #[.slice A n c],.slice L m q] w (zAJ (xM fs cs) w):=by
 have HKT:=zh (fun W (hW:Below w.heap.size w W)=>zL0 A n c fs W (h.later hW) hs);have HKO:=zh (fun W (hW:Below w.heap.size w W)=>zBt A n c fs W (h.later hW) hs);have HLC:=zh h';have HLL:=zh h'.1;have HSD:=zh hd;have HB:Hid (xM fs cs=if uA fs=true then (if 120<m then (4,[]) else zAT fs cs) else (1,[])):=by unfold Hid xM;rw[h'.1]
 have HT0:Hid (uA fs=uA fs):=rfl;clear h h' hs hd;generalize xM fs cs=PB at *;generalize hT:uA fs=t0 at *;have HT:=zh hT;clear hT HT0;go_enter Tryz.func28,Tryz.ntmps28;go_wp2_with fail;refine(HKT.out _ ((Below.new _ _).later (Below.new _ _))).mono ?_;rintro e w1 ⟨rfl,hb1⟩;have HB1:=zh (((Below.new w _).later (Below.new _ _)).later hb1);have HX:=zh (Blk.later (yC w _ _) hb1 (by simp;omega));have HY:=zh (Blk.later (vB w _ _) hb1 (by simp));have px:=HX.out.cell 0;have py:=HY.out.cell 0;have fy:=HY.out.frozen 0;have zy:=HY.out.lt;simp at px py;clear hb1;cases t0
 · have HE:Hid (PB=(1,[])):=by unfold Hid;rw[HB.out];rfl
   go_wp2_with fail;refine bodyPost_ret (v:=.tuple #[.agg #[.slice none 0 0],.int .i64 1]) (by simp[results,Tryz.results28,go_sem,py]) rfl ?_;exact⟨_,by rw[HE.out],by rw[HE.out];exact wK _ _,HB1.out.setCell (show w.heap.size≤w.heap.size+1 by omega) _⟩
 by_cases h120:120<m
 · have HE:Hid (PB=(4,[])):=by unfold Hid;rw[HB.out,if_pos rfl,if_pos h120]
   go_wp2_with fail;refine bodyPost_ret (v:=.tuple #[.agg #[.slice none 0 0],.int .i64 4]) (by simp[results,Tryz.results28,go_sem,py]) rfl ?_;exact⟨_,by rw[HE.out],by rw[HE.out];exact wK _ _,HB1.out.setCell (show w.heap.size≤w.heap.size+1 by omega) _⟩
 have HE:Hid (PB=zAT fs cs):=by unfold Hid;rw[HB.out,if_pos rfl,if_neg h120]
 clear HB;go_wp2_with fail;refine(HKO.out _ HB1.out).mono ?_;rintro e w2 ⟨v2,rfl,hN2,hb2⟩;have HB2:=zh (HB1.out.later hb2);have HY2:=zh (HY.out.later hb2 HY.out.lt);have hw2:=HB2.out.size;obtain⟨A2,cap2,rfl,hcap2,_⟩:=hN2.reads;have HN2:=zh (hN2.base HB1.out.size);clear px py fy zy hb2 hN2 HX HY HKT HKO;have hz2:=HY2.out.lt;have HBX:=zh (Below.new w2 (.cells #[.slice A2 fs.length cap2] 26));go_wp2_with fail;go_loopw [7] (fun i wr=>∃(k:Nat) (v:Value) (gs:List NodeD),k≤m∧i=.int .i64 k∧Hid (Blk wr w2.heap.size 26 #[v])∧Hid (Blk wr (w.heap.size+1) 26 #[.slice none 0 0])∧Hid (NodesO wr w.heap.size v gs)∧Hid (uA gs=true)∧Hid (Below w.heap.size w wr)∧Hid (PB=zAT gs (cs.drop k))) (fun i _=>m-(intOf i).toNat);case atStart=>exact⟨0,_,fs,Nat.zero_le _,rfl,heap_alloc_new w2 _,HY2.out.alloc _,HN2.out.later HBX.out,HT.out,HB2.out.later HBX.out,by unfold Hid;rw[List.drop_zero];exact HE.out⟩
 case round =>
  obtain⟨k,v,gs,hk,rfl,HV,HYR,HN,HTG,HBW,HPB⟩:=hrel;obtain⟨A3,cap3,rfl,hc3,hN3⟩:=HN.out.reads;have pv:=HV.out.cell 0;have zv:=HV.out.lt;have fv:=HV.out.frozen 0;have py:=HYR.out.cell 0;have zy:=HYR.out.lt;have fy:=HYR.out.frozen 0;simp at pv py;clear HBX HY2 HN2;by_cases hlt:k<m
  · obtain⟨bb,o,rfl,hbB,hc⟩:=(HLC.out.later HBW.out).2 (by omega);obtain⟨c0,c1,c2,c3,k0,k1,k2,k3,hr⟩:=hc k hlt;clear hc;have hl:k<cs.length:=by rw[HLL.out];exact hlt
    have hsd:=HSD.out _ (zLq cs k hl);have hda:=zJR cs k hl;generalize cs.getD k default=d at *;have HKD:=zh (fun W (hW:Below wr.heap.size wr W)=>zHv A3 gs.length cap3 c0 c1 c2 c3 gs d W (hN3.later hW) hc3 (wQ HTG.out) (hr.later hW) hsd);have HDA:Hid (PB=if (zV0 gs d).1=0 then zAT (zV0 gs d).2 (cs.drop (k+1)) else ((zV0 gs d).1,[])):=by unfold Hid;rw[HPB.out,hda];rfl
    have HDT:Hid ((zV0 gs d).1=0→uA (zV0 gs d).2=true):=zFk;clear hda hsd;generalize zV0 gs d=R at *;obtain⟨r1,r2⟩:=R;obtain⟨rfl,rfl,⟨S,m1,q1,rfl,_,_⟩,rfl⟩:=hr;have hxx:w2.heap.size≠w.heap.size+1:=by omega
    go_wp2_with fail
    go_region_law (first
     | (go_simp
        go_at_call 84;refine(HKD.out _ (by exact(Below.refl _ _).drew)).mono ?_;rintro e w4 ⟨v4,rfl,hN4,hb4'⟩;have hb4:=wD hb4';obtain⟨A4,cap4,rfl,hcap4,_⟩:=hN4.reads;have HW:=zh (Below.new w4 (.cells #[.slice A4 r2.length cap4] 26));have H8X:Hid (Blk (w4.alloc (.cells #[.slice A4 r2.length cap4] 26)) w4.heap.size 26 #[.slice A4 r2.length cap4]):=heap_alloc_new _ _;have HVX:=zh ((HV.out.later hb4 HV.out.lt).alloc (.cells #[.slice A4 r2.length cap4] 26));have HYX:=zh ((HYR.out.later hb4 HYR.out.lt).alloc (.cells #[.slice A4 r2.length cap4] 26));have HNX:Hid (NodesO (w4.alloc (.cells #[.slice A4 r2.length cap4] 26)) w.heap.size (.slice A4 r2.length cap4) r2):=(hN4.base HBW.out.size).later HW.out;have HBX:=zh ((HBW.out.later hb4).later HW.out);have z8:=H8X.out.lt
        clear hb4 hb4' hN4)
     | (go_simp
        go_at_call 84;refine(HKD.out _ (by exact(Below.new _ _).drew)).mono ?_;rintro e w4 ⟨v4,rfl,hN4,hb4'⟩;have hb4:=wD hb4';obtain⟨A4,cap4,rfl,hcap4,_⟩:=hN4.reads;have h8:Blk w4 wr.heap.size 26 #[.slice none 0 0]:=Blk.later (heap_alloc_new wr _) hb4 (by simp);have p8:=h8.cell 0;have f8:=h8.frozen 0;have z8:=h8.lt;simp at p8;have hbW:=(Below.new wr (.cells #[.slice none 0 0] 26)).later hb4;have H8X:Hid (Blk (w4.setCell ⟨wr.heap.size,0,none⟩ (.slice A4 r2.length cap4)) wr.heap.size 26 #[.slice A4 r2.length cap4]):=h8.set_ 0 _;have HVX:=zh ((HV.out.later hbW HV.out.lt).far (p:=⟨wr.heap.size,0,none⟩) (show w2.heap.size≠wr.heap.size by omega) (.slice A4 r2.length cap4));have HYX:=zh ((HYR.out.later hbW HYR.out.lt).far (p:=⟨wr.heap.size,0,none⟩) (show w.heap.size+1≠wr.heap.size by omega) (.slice A4 r2.length cap4));have HNX:Hid (NodesO (w4.setCell ⟨wr.heap.size,0,none⟩ (.slice A4 r2.length cap4)) w.heap.size (.slice A4 r2.length cap4) r2):=(hN4.base (by have:=HBW.out.size;simp;omega)).setBlk h8 (by decide) (by decide);have HBX:=zh ((HBW.out.later hbW).setCell (p:=⟨wr.heap.size,0,none⟩) HBW.out.size (.slice A4 r2.length cap4))
        clear hb4 hb4' hN4 h8 hbW))
    all_goals
     have p8:=H8X.out.cell 0;have z8:=H8X.out.lt;have pv:=HVX.out.cell 0;have fv:=HVX.out.frozen 0;have zv:=HVX.out.lt;have py:=HYX.out.cell 0;have fy:=HYX.out.frozen 0;have zy:=HYX.out.lt;simp at p8 pv py;by_cases hr0:r1=0
     · have HE2:Hid (PB=zAT r2 (cs.drop (k+1))):=by unfold Hid;rw[HDA.out,if_pos hr0]
       have HT2:=zh (HDT.out hr0);subst hr0;go_wp2_with fail;go_roundw;case rel=>exact⟨k+1,_,r2,by omega,by go_num,HVX.out.set_ 0 _,HYX.out.far (show w.heap.size+1≠w2.heap.size by omega) _,HNX.out.setBlk HVX.out (by decide) (by decide),HT2.out,HBX.out.setCell (show w.heap.size≤w2.heap.size by omega) _,HE2.out⟩
       case measure=>simp[intOf];omega
     · have HE2:Hid (PB=(r1,[])):=by unfold Hid;rw[HDA.out,if_neg hr0]
       have hb0:(r1==(0:Int))=false:=by rw[beq_eq_false_iff_ne];exact hr0
       go_wp2_with fail;refine bodyPost_ret (v:=.tuple #[.agg #[.slice none 0 0],.int .i64 r1]) (by simp[results,Tryz.results28,go_sem,py]) rfl ?_;exact⟨_,by rw[HE2.out],by rw[HE2.out];exact wK _ _,HBX.out.setCell (show w.heap.size≤w.heap.size+1 by omega) _⟩
  · obtain rfl:k=m:=by omega
    have HE2:Hid (PB=(0,gs)):=by unfold Hid;rw[HPB.out,List.drop_of_length_le (by rw[HLL.out];omega)];rfl
    have hxx:w2.heap.size≠w.heap.size+1:=by omega
    go_wp2_with fail;refine bodyPost_ret (v:=.tuple #[.agg #[.slice A3 _ cap3],.int .i64 0]) (by simp[results,Tryz.results28,go_sem,py];try first | exact rfl | exact⟨rfl,rfl⟩) rfl ?_;exact⟨_,by rw[HE2.out],by rw[HE2.out];exact HN.out.setBlk HYR.out (by decide) (by decide),HBW.out.setCell (show w.heap.size≤w.heap.size+1 by omega) _⟩
end Go.Proofs.YtfpcjhajjejpdaaGreatDoor
namespace Go.Proofs.YtfpcjhajjejpdaaGreatDoor
open Go.RowKit
theorem zLC (l:List ByteArray):(l.any fun s=>!uL s)=!(l.all uL):=by
 induction l with
 | nil=>rfl
 | cons a r ih=>simp only[List.any_cons,List.all_cons,Bool.not_and,ih]
theorem zJl (s:ByteArray) (w:World) (hs:s.size≤1048576) :
 Calls Tryz.prog 189 #[.string s] w fun e w'=>e=.returned (.bool (!uL s))∧Below w.heap.size w w':=by
 have HK:=zh (zFw s w hs);generalize uL s=y at *;go_enter Tryz.func189,Tryz.ntmps189;go_wp2_with fail;refine HK.out.mono ?_;rintro e w1 ⟨rfl,hb1⟩;have HB:=zh hb1;clear hb1;go_wp2_with fail;go_ret;exact⟨rfl,HB.out⟩
set_option maxRecDepth 100000 in
theorem zLb (b0 b1 b2 b3 r0:Value) (b:TableD) (d:List ByteArray) (w:World) (hb:TableR w w.heap.size b0 b1 b2 b3 b) (h:RowR w w.heap.size r0 d) (hs:wH d) (hpos:0<b.cols.length) :
 Calls Tryz.prog 142 #[.agg #[b0,b1,b2,b3],.agg #[r0]] w fun e w'=>e=.returned (.bool (vT b.cols d))∧Below w.heap.size w w':=by
 obtain⟨rfl,rfl,⟨A2,n2,p2,rfl,s2,k2⟩,⟨A3,n3,p3,rfl,s3,k3⟩⟩:=hb;obtain⟨A,n,cap,rfl,hS,hcap⟩:=h;have HR:Hid (vT b.cols d=(decide (n=n2)&&(decide (d.getD 0 ByteArray.empty≠⟨#[]⟩)&&d.all uL))):=by unfold Hid vT;rw[hS.1,s2.1]
 rw[s2.1]at hpos;have hn:n≤1048576:=by rw[←hS.1];exact hs.1
 have HSS:=zh hS;have HKf:=zh (fun W (hW:Below w.heap.size w W)=>vX 189 #[] (fun s=>!uL s) A n cap d W (hS.later hW) hn (enters_of Tryz.func189 (by kernel_rfl) rfl) (fun s hss W' _=>zJl s W' (hs.2 s hss)));rw[zLC]at HKf;have HB0:=zh ((Below.new w (.cells #[.string b.name,.string b.glob,.slice A2 n2 p2,.slice A3 n3 p3] 29)).later (Below.new _ (.cells #[.slice A n cap] 40)));clear s2 s3 hS hs;generalize vT b.cols d=R at *;generalize b.name=nm at *;generalize b.glob=gl at *;generalize d.all uL=y at *;go_enter Tryz.func142,Tryz.ntmps142;by_cases hlen:n=n2
 case neg =>
  have HE:Hid (R=false):=by unfold Hid;rw[HR.out,decide_eq_false hlen];rfl
  have hb3:((n:Int)==(n2:Int))=false:=by rw[beq_eq_false_iff_ne];omega
  have hb4:(n==n2)=false:=by rw[beq_eq_false_iff_ne];omega
  have hb5:((n:Int) != (n2:Int))=true:=by rw[bne,hb3];rfl
  clear hlen HR;go_wp2_with fail;go_ret;exact⟨zA0 HE.out.symm,HB0.out⟩
 subst hlen;obtain⟨bk,o,rfl,hbk,hcell⟩:=(HSS.out.later HB0.out).2 hpos;have hck:=hcell 0 hpos;rw[Nat.add_zero]at hck;clear hcell;have hn0:(0:Int)<(n:Int):=by omega
 generalize hd0:d.getD 0 ByteArray.empty=s0 at *;by_cases h0:s0=⟨#[]⟩
 · have HE:Hid (R=false):=by unfold Hid;rw[HR.out,decide_eq_false (show ¬(s0≠⟨#[]⟩) from fun hh=>hh h0)];simp
   subst h0;clear HR;go_wp2_with fail;go_ret;exact⟨zA0 HE.out.symm,HB0.out⟩
 have HE:Hid (R=y):=by unfold Hid;rw[HR.out,decide_eq_true h0];simp
 have hbe:=zB0 h0;have hbe3:=wJ h0;clear h0 HR hd0;go_wp2_with fail;refine(HKf.out _ HB0.out).mono ?_;rintro e w1 ⟨rfl,hb1⟩;have HB1:=zh (HB0.out.later hb1);clear hb1;cases y
 all_goals
  go_wp2_with fail;go_ret;exact⟨zA0 HE.out.symm,HB1.out⟩
end Go.Proofs.YtfpcjhajjejpdaaGreatDoor
namespace Go.Proofs
open Go.Shelf
def Tryz.lays156_ren:Go.Shelf.Ren:=⟨fun | 156=>191 | 165=>220 | 166=>221 | 169=>194 | 240=>244 | 241=>245 | 276=>269 | 277=>270 | n=>n,fun | 31=>27 | 9=>9 | 3=>3 | 4=>4 | 0=>0 | 20=>20 | 72=>177 | 76=>199 | 70=>175 | 37=>22 | 75=>198 | 127=>203 | 164=>233 | 5=>5 | 80=>179 | n=>n,fun | n=>n⟩
theorem Tryz.lays156:Go.Proofs.Lays.n156 Tryz.prog Tryz.lays156_ren:={
 mixed:=by kernel_rfl
 f156:=Tryz.func191.trans (congrArg some (by kernel_rfl))
 f165:=Tryz.func220.trans (congrArg some (by kernel_rfl))
 f166:=Tryz.func221.trans (congrArg some (by kernel_rfl))
 f169:=Tryz.func194.trans (congrArg some (by kernel_rfl))
 f240:=Tryz.func244.trans (congrArg some (by kernel_rfl))
 f241:=Tryz.func245.trans (congrArg some (by kernel_rfl))
 f276:=Tryz.func269.trans (congrArg some (by kernel_rfl))
 f277:=Tryz.func270.trans (congrArg some (by kernel_rfl))
 t0:=Tryz.underlying0
 a0:=Tryz.isAgg0
 z0:=Tryz.sizeOf0
 v0:=Tryz.zeroValue0
 t3:=Tryz.underlying3
 a3:=Tryz.isAgg3
 z3:=Tryz.sizeOf3
 v3:=Tryz.zeroValue3
 t4:=Tryz.underlying4
 a4:=Tryz.isAgg4
 z4:=Tryz.sizeOf4
 v4:=Tryz.zeroValue4
 t9:=Tryz.underlying9
 a9:=Tryz.isAgg9
 z9:=Tryz.sizeOf9
 v9:=Tryz.zeroValue9
 t20:=Tryz.underlying20
 a20:=Tryz.isAgg20
 z20:=Tryz.sizeOf20
 v20:=Tryz.zeroValue20
 t31:=Tryz.underlying27
 a31:=Tryz.isAgg27
 z31:=Tryz.sizeOf27
 v31:=Tryz.zeroValue27
 t37:=Tryz.underlying22
 a37:=Tryz.isAgg22
 z37:=Tryz.sizeOf22
 v37:=Tryz.zeroValue22
 t70:=Tryz.underlying175
 a70:=Tryz.isAgg175
 z70:=Tryz.sizeOf175
 v70:=Tryz.zeroValue175
 t72:=Tryz.underlying177
 a72:=Tryz.isAgg177
 z72:=Tryz.sizeOf177
 v72:=Tryz.zeroValue177
 t75:=Tryz.underlying198
 a75:=Tryz.isAgg198
 z75:=Tryz.sizeOf198
 v75:=Tryz.zeroValue198
 t76:=Tryz.underlying199
 a76:=Tryz.isAgg199
 z76:=Tryz.sizeOf199
 v76:=Tryz.zeroValue199
 t127:=Tryz.underlying203
 a127:=Tryz.isAgg203
 z127:=Tryz.sizeOf203
 v127:=Tryz.zeroValue203
 t164:=Tryz.underlying233
 a164:=Tryz.isAgg233
 z164:=Tryz.sizeOf233
 v164:=Tryz.zeroValue233 }
theorem Tryz.Builder_Extra_156:Builder.Extra Tryz.prog Tryz.lays156_ren:={
 sizeBuilder:=by kernel_rfl
 liesBuilder:=by kernel_rfl
 t5:=Tryz.underlying5
 a5:=Tryz.isAgg5
 z5:=Tryz.sizeOf5
 v5:=Tryz.zeroValue5
 infoByte:=by kernel_rfl
 cellsByte:=by kernel_rfl
 sizeByte:=by kernel_rfl
 neB5:=by decide }
open Go.RowKit in
theorem Tryz.strings_Join_none (a:Option Addr) (c:Nat) (sep:ByteArray) (w:World) :
 Calls Tryz.prog 191 #[.slice a 0 c,.string sep] w fun e w'=>e=.returned (.string ⟨#[]⟩)∧w'=w:=Any.strings_Join_none Tryz.lays156 Tryz.Builder_Extra_156 a c sep w
open Go.RowKit in
theorem Tryz.strings_Join (bk o c:Nat) (xs:List ByteArray) (sep:ByteArray) (w:World) (hcells:∀(j:Nat) x,xs[j]?=some x→w.cell? ⟨bk,o+j,none⟩=some (.string x)) (hbk:bk<w.heap.size) (hN:xs.length≤140737488355328) (hcap:xs.length≤c) (hlen:(Lib.join (xs.map (·.data.toList)) sep.data.toList).length≤140737488355328) :
 Calls Tryz.prog 191 #[.slice (some ⟨bk,o,none⟩) xs.length c,.string sep] w fun e w'=>e=.returned (.string ⟨(Lib.join (xs.map (·.data.toList)) sep.data.toList).toArray⟩)∧Below w.heap.size w w':=Any.strings_Join Tryz.lays156 Tryz.Builder_Extra_156 bk o c xs sep w hcells hbk hN hcap hlen
def Tryz.lays143_ren:Go.Shelf.Ren:=⟨fun | 143=>226 | 219=>247 | 217=>271 | 225=>272 | 224=>273 | 267=>274 | 266=>287 | 314=>288 | n=>n,fun | 9=>9 | 3=>3 | 4=>4 | 5=>5 | 46=>180 | 146=>249 | 51=>230 | n=>n,fun | 1=>0 | n=>n⟩
theorem Tryz.lays143:Go.Proofs.Lays.n143 Tryz.prog Tryz.lays143_ren:={
 mixed:=by kernel_rfl
 f143:=Tryz.func226.trans (congrArg some (by kernel_rfl))
 f217:=Tryz.func271.trans (congrArg some (by kernel_rfl))
 f219:=Tryz.func247.trans (congrArg some (by kernel_rfl))
 f224:=Tryz.func273.trans (congrArg some (by kernel_rfl))
 f225:=Tryz.func272.trans (congrArg some (by kernel_rfl))
 f266:=Tryz.func287.trans (congrArg some (by kernel_rfl))
 f267:=Tryz.func274.trans (congrArg some (by kernel_rfl))
 f314:=Tryz.func288.trans (congrArg some (by kernel_rfl))
 t3:=Tryz.underlying3
 a3:=Tryz.isAgg3
 z3:=Tryz.sizeOf3
 v3:=Tryz.zeroValue3
 t4:=Tryz.underlying4
 a4:=Tryz.isAgg4
 z4:=Tryz.sizeOf4
 v4:=Tryz.zeroValue4
 t5:=Tryz.underlying5
 a5:=Tryz.isAgg5
 z5:=Tryz.sizeOf5
 v5:=Tryz.zeroValue5
 t9:=Tryz.underlying9
 a9:=Tryz.isAgg9
 z9:=Tryz.sizeOf9
 v9:=Tryz.zeroValue9
 t46:=Tryz.underlying180
 a46:=Tryz.isAgg180
 z46:=Tryz.sizeOf180
 v46:=Tryz.zeroValue180
 t51:=Tryz.underlying230
 a51:=Tryz.isAgg230
 z51:=Tryz.sizeOf230
 v51:=Tryz.zeroValue230
 t146:=Tryz.underlying249
 a146:=Tryz.isAgg249
 z146:=Tryz.sizeOf249
 v146:=Tryz.zeroValue249
 g1:=by kernel_rfl }
open Go.RowKit Go.Lib in
theorem Tryz.strings_Index_one (s:ByteArray) (c:UInt8) (w:World) :
 Calls Tryz.prog 226 #[.string s,.string ⟨#[c]⟩] w fun e w'=>e=.returned (.int .i64 (Lib.indexByte s.data.toList c))∧w'=w:=Any.strings_Index_one Tryz.lays143 s c w
def Tryz.lays221_ren:Go.Shelf.Ren:=⟨fun | 221=>200 | 268=>227 | 138=>206 | 143=>226 | 195=>236 | 197=>248 | 218=>237 | 219=>247 | 260=>275 | 217=>271 | 225=>272 | 224=>273 | 267=>274 | 266=>287 | 314=>288 | n=>n,fun | 9=>9 | 3=>3 | 31=>27 | 4=>4 | 0=>0 | 105=>219 | 21=>21 | 5=>5 | 46=>180 | 119=>251 | 139=>254 | 138=>253 | 146=>249 | 51=>230 | n=>n,fun | 1=>0 | 3=>1 | 4=>2 | n=>n⟩
theorem Tryz.lays221:Go.Proofs.Lays.n221 Tryz.prog Tryz.lays221_ren:={
 mixed:=by kernel_rfl
 f138:=Tryz.func206.trans (congrArg some (by kernel_rfl))
 f143:=Tryz.func226.trans (congrArg some (by kernel_rfl))
 f195:=Tryz.func236.trans (congrArg some (by kernel_rfl))
 f197:=Tryz.func248.trans (congrArg some (by kernel_rfl))
 f217:=Tryz.func271.trans (congrArg some (by kernel_rfl))
 f218:=Tryz.func237.trans (congrArg some (by kernel_rfl))
 f219:=Tryz.func247.trans (congrArg some (by kernel_rfl))
 f221:=Tryz.func200.trans (congrArg some (by kernel_rfl))
 f224:=Tryz.func273.trans (congrArg some (by kernel_rfl))
 f225:=Tryz.func272.trans (congrArg some (by kernel_rfl))
 f260:=Tryz.func275.trans (congrArg some (by kernel_rfl))
 f266:=Tryz.func287.trans (congrArg some (by kernel_rfl))
 f267:=Tryz.func274.trans (congrArg some (by kernel_rfl))
 f268:=Tryz.func227.trans (congrArg some (by kernel_rfl))
 f314:=Tryz.func288.trans (congrArg some (by kernel_rfl))
 t0:=Tryz.underlying0
 a0:=Tryz.isAgg0
 z0:=Tryz.sizeOf0
 v0:=Tryz.zeroValue0
 t3:=Tryz.underlying3
 a3:=Tryz.isAgg3
 z3:=Tryz.sizeOf3
 v3:=Tryz.zeroValue3
 t4:=Tryz.underlying4
 a4:=Tryz.isAgg4
 z4:=Tryz.sizeOf4
 v4:=Tryz.zeroValue4
 t5:=Tryz.underlying5
 a5:=Tryz.isAgg5
 z5:=Tryz.sizeOf5
 v5:=Tryz.zeroValue5
 t9:=Tryz.underlying9
 a9:=Tryz.isAgg9
 z9:=Tryz.sizeOf9
 v9:=Tryz.zeroValue9
 t21:=Tryz.underlying21
 a21:=Tryz.isAgg21
 z21:=Tryz.sizeOf21
 v21:=Tryz.zeroValue21
 t31:=Tryz.underlying27
 a31:=Tryz.isAgg27
 z31:=Tryz.sizeOf27
 v31:=Tryz.zeroValue27
 t46:=Tryz.underlying180
 a46:=Tryz.isAgg180
 z46:=Tryz.sizeOf180
 v46:=Tryz.zeroValue180
 t51:=Tryz.underlying230
 a51:=Tryz.isAgg230
 z51:=Tryz.sizeOf230
 v51:=Tryz.zeroValue230
 t105:=Tryz.underlying219
 a105:=Tryz.isAgg219
 z105:=Tryz.sizeOf219
 v105:=Tryz.zeroValue219
 t119:=Tryz.underlying251
 a119:=Tryz.isAgg251
 z119:=Tryz.sizeOf251
 t138:=Tryz.underlying253
 a138:=Tryz.isAgg253
 z138:=Tryz.sizeOf253
 v138:=Tryz.zeroValue253
 t139:=Tryz.underlying254
 a139:=Tryz.isAgg254
 z139:=Tryz.sizeOf254
 v139:=Tryz.zeroValue254
 t146:=Tryz.underlying249
 a146:=Tryz.isAgg249
 z146:=Tryz.sizeOf249
 v146:=Tryz.zeroValue249
 g1:=by kernel_rfl
 g3:=by kernel_rfl
 g4:=by kernel_rfl }
end Go.Proofs
