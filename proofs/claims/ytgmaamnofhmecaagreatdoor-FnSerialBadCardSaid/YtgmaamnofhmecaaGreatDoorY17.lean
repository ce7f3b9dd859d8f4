import Derived.Test.YtgmaamnofhmecaaGreatDoorY16
import Derived.Test.YtgmaamnofhmecaaGreatDoorY01
import Derived.Test.YtgmaamnofhmecaaGreatDoorY12
import Derived.Test.YtgmaamnofhmecaaGreatDoorY09
import Derived.Test.YtgmaamnofhmecaaGreatDoorProg
import Derived.Test.YtgmaamnofhmecaaGreatDoorY15
import Derived.Test.YtgmaamnofhmecaaGreatDoorY05
import Derived.Test.YtgmaamnofhmecaaGreatDoorY11
import Derived.Test.YtgmaamnofhmecaaGreatDoorY00
import Derived.Test.YtgmaamnofhmecaaGreatDoorY04
import Derived.Ground.GgwProg
import Derived.Ground.Names2Prog
import Derived.Ground.SlgnProg
import Derived.Lib.AppendIntMem
import Derived.Lib.IndexBytes
import Derived.Lib.Join
import Derived.Lib.SplitLaws
import Derived.Lib.TrimUEq
import Derived.Shelf.GgClosure.StringsIndexFunc
import Derived.Shelf.GgClosure.StringsIndexFuncTop
import Derived.Shelf.LaysM
import Derived.Shelf.Slices.Cells
import Derived.Shelf.Slices.Clone
import Derived.Shelf.Slices.CompactS
import Derived.Shelf.Slices.Empties2
import Derived.Shelf.Slices.Equal
import Derived.Shelf.Slices.In.SortNone
import Derived.Shelf.Slices.Turned
import Derived.Shelf.SlicesE.Clone
import Derived.Shelf.SlicesG.SearchI
import Derived.Shelf.Small.Bits
import Derived.Shelf.Small.Strs
import Derived.Shelf.Small.Utf8
import Derived.Shelf.Small.Wraps
import Derived.Shelf.Sort.Plain
import Derived.Shelf.Strconv.Itoa0
import Derived.Shelf.Strconv.Itoa1
import Derived.Shelf.Strconv.Itoa2
import Derived.Shelf.Strconv.Itoa3
import Derived.Shelf.Strconv.Itoa4
import Derived.Shelf.Strings.AsciiSet
import Derived.Shelf.Strings.Builder1
import Derived.Shelf.Strings.Builder2
import Derived.Shelf.Strings.Count
import Derived.Shelf.Strings.Explode
import Derived.Shelf.Strings.FuncGrows
import Derived.Shelf.Strings.OnBuilder
import Derived.Shelf.Strings.Prefix
import Derived.Shelf.Strings.Replace
import Derived.Shelf.Strings.RuneCount
import Derived.Shelf.Strings.Runes
import Derived.Shelf.Strings.Search1
import Derived.Shelf.Strings.Search2
import Derived.Shelf.Strings.Search3
import Derived.Shelf.Strings.Shaped
import Derived.Shelf.Strings.Split
import Derived.Shelf.Strings.SplitShaped
import Derived.Shelf.Strings.Trim
import Derived.Shelf.Unicode.Decode
import Derived.Shelf.Unicode.DecodeAny
import Derived.Shelf.Unicode.DecodeLast
import Derived.Shelf.Unicode.DecodeSlow
import Derived.Shelf.Utf8.RuneCount
set_option linter.unusedSimpArgs false
set_option maxHeartbeats 4000000
open Go.Lib renaming hid → zh
namespace Go.Proofs.YtgmaamnofhmecaaGreatDoor
open Go.RowKit
set_option linter.unusedVariables false
def vP (fs:List NodeD) (nm:ByteArray) (ss:List ByteArray) (v:ByteArray):Int × List NodeD:=if (xA fs&&(wD nm ss&&decide (v.size≤64)))=true then vT fs nm ss v else (1,[])
theorem zAQ {fs:List NodeD} (h:xA fs=true):fs.length≤120:=(tree_iff.1 h).1
set_option maxRecDepth 100000 in
theorem zGT (A:Option Addr) (n c:Nat) (fs:List NodeD) (nm:ByteArray) (S:Option Addr) (m q:Nat) (ss:List ByteArray) (v:ByteArray) (w:World) (h:Nodes w w.heap.size A n fs) (hnc:n≤c) (hs:yC fs) (h':Strs w w.heap.size S m ss) (hmq:m≤q) (hd:(⟨nm,ss,v⟩:NodeD).small) :
 Calls Tryz.prog 121 #[.agg #[.slice A n c],.string nm,.slice S m q,.string v] w (zAM (vP fs nm ss v) w):=by
 have hm:m≤1048576:=by rw[←h'.1];exact hd.2.1.1
 have HKT:=zh (fun W (hW:Below w.heap.size w W)=>vF A n c fs W (h.later hW) hs);have HKP:=zh (fun W (hW:Below w.heap.size w W)=>xK nm S m q ss W hd.1 (h'.later hW) hm hd.2.1.2);have HKU:=zh (fun W (hW:Below w.heap.size w W) (ht:xA fs=true)=>zDs A n c fs nm S m q ss v W (h.later hW) hnc hs (by have:=zAQ ht;rw[h.1]at this;omega) (h'.later hW) hmq hd);have HB:Hid (vP fs nm ss v=if (xA fs&&(wD nm ss&&decide (v.size≤64)))=true then vT fs nm ss v else (1,[])):=rfl;have hvs:v.size≤1048576:=hd.2.2;clear h h' hd hs;generalize vP fs nm ss v=PB at *;generalize vT fs nm ss v=PU at *;generalize xA fs=t0 at *;generalize wD nm ss=t1 at *;go_enter Tryz.func121,Tryz.ntmps121;go_wp2_with fail;refine(HKT.out _ ((Below.new _ _).later (Below.new _ _))).mono ?_;rintro e w1 ⟨rfl,hb1⟩;have HB1:=zh (((Below.new w _).later (Below.new _ _)).later hb1);have HX:=zh (Blk.later (uD w _ _) hb1 (by simp;omega));have HY:=zh (Blk.later (xD w _ _) hb1 (by simp));have px:=HX.out.cell 0;have py:=HY.out.cell 0;have fy:=HY.out.frozen 0;have zy:=HY.out.lt;simp at px py;clear hb1;cases t0
 · have HE:Hid (PB=(1,[])):=by unfold Hid;rw[HB.out];rfl
   go_wp2_with fail;refine bodyPost_ret (v:=.tuple #[.agg #[.slice none 0 0],.int .i64 1]) (by simp[results,Tryz.results121,go_sem,py]) rfl ?_;exact⟨_,by rw[HE.out],by rw[HE.out];exact wI _ _,HB1.out.setCell (show w.heap.size≤w.heap.size+1 by omega) _⟩
 · go_wp2_with fail;refine(HKP.out _ HB1.out).mono ?_;rintro e w2 ⟨rfl,rfl⟩;cases t1
   · have HE:Hid (PB=(1,[])):=by unfold Hid;rw[HB.out];rfl
     go_wp2_with fail;refine bodyPost_ret (v:=.tuple #[.agg #[.slice none 0 0],.int .i64 1]) (by simp[results,Tryz.results121,go_sem,py]) rfl ?_;exact⟨_,by rw[HE.out],by rw[HE.out];exact wI _ _,HB1.out.setCell (show w.heap.size≤w.heap.size+1 by omega) _⟩
   · by_cases h64:64<v.size
     · have HE:Hid (PB=(1,[])):=by unfold Hid;rw[HB.out,decide_eq_false (by omega)];rfl
       go_wp2_with fail;refine bodyPost_ret (v:=.tuple #[.agg #[.slice none 0 0],.int .i64 1]) (by simp[results,Tryz.results121,go_sem,py]) rfl ?_;exact⟨_,by rw[HE.out],by rw[HE.out];exact wI _ _,HB1.out.setCell (show w.heap.size≤w.heap.size+1 by omega) _⟩
     · have HE:Hid (PB=PU):=by unfold Hid;rw[HB.out,decide_eq_true (show v.size≤64 by omega)];rfl
       go_wp2_with fail;refine(HKU.out _ HB1.out (by trivial)).mono ?_;rintro e w5 ⟨v5,rfl,hN5,hb5⟩;have HY5:=zh (HY.out.later hb5 HY.out.lt);have HB5:=zh (HB1.out.later hb5);obtain⟨A5,cap5,rfl,_,_⟩:=hN5.reads;have HN5:=zh (hN5.base HB1.out.size);have p5:=HY5.out.cell 0;have f5:=HY5.out.frozen 0;have z5:=HY5.out.lt;simp at p5;clear hb5 hN5 px py fy zy;go_wp2_with fail;refine bodyPost_ret (v:=.tuple #[.agg #[.slice A5 _ cap5],.int .i64 _]) (by simp[results,Tryz.results121,go_sem,p5];try first | exact rfl | exact⟨rfl,rfl⟩) rfl ?_;exact⟨_,by rw[HE.out],by rw[HE.out];exact HN5.out.setBlk HY5.out (by decide) (by decide),HB5.out.setCell (show w.heap.size≤w.heap.size+1 by omega) _⟩
theorem zHz {fs:List NodeD} {nm:ByteArray} {ss:List ByteArray} (h:yC fs):yC (uT fs nm ss) :=
 ⟨Nat.le_trans (List.length_filter_le _ _) h.1,fun d hd=>h.2 d (List.mem_filter.1 hd).1⟩
set_option maxRecDepth 100000 in
theorem zGo (A:Option Addr) (n c:Nat) (fs:List NodeD) (nm:ByteArray) (S:Option Addr) (m q:Nat) (ss:List ByteArray) (w:World) (h:Nodes w w.heap.size A n fs) (hs:yC fs) (h':Strs w w.heap.size S m ss) (hm:m≤1048576) :
 Calls Tryz.prog 188 #[.agg #[.slice A n c],.string nm,.slice S m q] w (zGQ (uT fs nm ss) w):=by
 obtain⟨i0,hi,hz0,hz1,hz2⟩:=info_parts zS0;have Hh:=zh h;have Hlen:=zh h.1;have hn:n≤1048576:=by rw[←h.1];exact hs.1
 have Hst:=zh h';have HSM:=zh (zHz (nm:=nm) (ss:=ss) hs);have HOUT:Hid (uT fs nm ss=fs.filter fun d=>!inN nm ss d):=rfl;clear h h' hs;generalize uT fs nm ss=OUT at *;generalize hP:(fun d=>!inN nm ss d)=P at *;have HP:Hid (∀d,P d=!inN nm ss d):=by subst hP;exact fun _=>rfl
 clear hP;have HY0:=zh (Blk.alloc (xD w (.cells #[.slice A n c] 26) (.cells #[.slice none 0 0] 26)) (.cells #[] 102));have HX0:=zh (Blk.alloc (uD w (.cells #[.slice A n c] 26) (.cells #[.slice none 0 0] 26)) (.cells #[] 102));have HB0:=zh (((Below.new w (.cells #[.slice A n c] 26)).later (Below.new _ (.cells #[.slice none 0 0] 26))).later (Below.new _ (.cells #[] 102)));go_enter Tryz.func188,Tryz.ntmps188;go_wp2_with fail;go_loopw [7,8] (fun v i wr=>∃(k:Nat) (cs:List Value),k≤n∧i=.int .i64 k∧Hid (wr.ownsRow (w.heap.size+1+1) 102 3 v ((fs.take k).filter P).length cs)∧Hid (CellsN w ((fs.take k).filter P) cs)∧Hid (Blk wr w.heap.size 26 #[.slice A n c])∧Hid (Blk wr (w.heap.size+1) 26 #[.slice none 0 0])∧Hid (Below w.heap.size w wr)) (fun _ i _=>n-(intOf i).toNat);case atStart=>exact⟨0,[],Nat.zero_le _,rfl,by unfold Hid;simpa using World.ownsRow_lit (e:=102) (size:=3) ((w.alloc (.cells #[.slice A n c] 26)).alloc (.cells #[.slice none 0 0] 26)) #[] 0 (by simp) (by omega) rfl,rfl,HX0.out,HY0.out,HB0.out⟩
 case round =>
  obtain⟨k,cs,hk,rfl,HO,HC,HX,HY,HB⟩:=hrel;have px:=HX.out.cell 0;have zx:=HX.out.lt;simp at px;have hml:=zHC P fs k;have hsz:=HB.out.size;have hzy:=HY.out.lt;by_cases hlt:k<n
  · obtain⟨bb,o,e0,hbB0,hc0⟩:=Hh.out.2 (by omega);obtain⟨c0,c1,c2,k0,k1,k2,hr⟩:=hc0 k hlt;subst e0;have j0:=(HB.out.cell (p:=⟨bb,o+k*3,none⟩) hbB0).trans k0;have j1:=(HB.out.cell (p:=⟨bb,o+k*3+1,none⟩) hbB0).trans k1;have j2:=(HB.out.cell (p:=⟨bb,o+k*3+2,none⟩) hbB0).trans k2;have hbB:bb<wr.heap.size:=by omega
    clear hc0 k0 k1 k2;have hl1:k<fs.length:=by rw[Hlen.out];exact hlt
    have HTS:=zh (zAC P fs k hl1);have HPd:=zh (HP.out (fs.getD k default));clear hl1;generalize fs.getD k default=d at *;have HNR:=zh hr;have HKI:=zh (fun W (hW:Below wr.heap.size wr W)=>zEA c0 c1 c2 S m q d nm ss W (hr.later (HB.out.later hW)) (Hst.out.later (HB.out.later hW)) hm);obtain⟨e0,⟨A1,n1,cap1,e1,hs1,hcap1⟩,e2⟩:=hr;subst e0 e1 e2;clear hs1;generalize hM:((fs.take k).filter P).length=mm at *;have HM:=zh hM;clear hM;generalize inN nm ss d=y at *;go_wp2_with fail;refine(HKI.out _ (by first | exact Below.refl _ _ | exact(Below.refl _ _).drew | exact vA (Below.refl _ _) _)).mono ?_;rintro e w1 ⟨rfl,hb1'⟩;have hb1:Below wr.heap.size wr w1:=by first | exact hb1' | exact zD0 hb1' | exact zEX hb1'
    have HX1:=zh (HX.out.later hb1 HX.out.lt);have HY1:=zh (HY.out.later hb1 HY.out.lt);have HB1:=zh (HB.out.later hb1);have HO1:=zh (Own.own_later HO.out hb1);have l0:=(hb1.cell (p:=⟨bb,o+k*3,none⟩) hbB).trans j0;have l1:=(hb1.cell (p:=⟨bb,o+k*3+1,none⟩) hbB).trans j1;have l2:=(hb1.cell (p:=⟨bb,o+k*3+2,none⟩) hbB).trans j2;have p1:=HX1.out.cell 0;have z1:=HX1.out.lt;simp at p1;have hw1:=hb1.size;clear hb1 hb1' j0 j1 j2 px;cases y
    · have HE:Hid ((fs.take (k+1)).filter P=(fs.take k).filter P++[d]):=by unfold Hid;rw[HTS.out,if_pos (by rw[HPd.out];rfl)]
      have hrow:Hid (∀o,(w1.alloc o).ownsRow (w.heap.size+1+1) 102 3 u7 mm cs):=fun o=>Own.own_later HO1.out (Below.new _ _);go_wp2_with (at_builtin;refine wpList_append_own _ rfl (.tmp 26) (.tmp 32) 24 rfl (w.heap.size+1+1) 102 i0 _ 3 56 Tryz.underlying24 hi hz0 hz1 hz2 rfl (by decide) _ mm _ rfl (hrow.out _) ⟨_,0,none⟩ 1 1 [.string d.name,.slice A1 n1 cap1,.string d.val] rfl rfl ?c1 ?c2 ?c3 ?c4 ?c5 ?_);case c1=>exact uL _ _ _
      case c2=>simp[Value.oneCell']
      case c3=>unfold maxLen;omega
      case c4=>omega
      case c5=>first | omega | (simp;omega)
      intro v1 w2 hown1 hg1 _;have HO3:Hid (w2.ownsRow (w.heap.size+1+1) 102 3 v1 ((fs.take (k+1)).filter P).length (cs++[.string d.name,.slice A1 n1 cap1,.string d.val])):=by unfold Hid;rw[HE.out,List.length_append,List.length_singleton,HM.out];exact hown1
      have HC3:Hid (CellsN w ((fs.take (k+1)).filter P) (cs++[.string d.name,.slice A1 n1 cap1,.string d.val])):=by unfold Hid;rw[HE.out];exact CellsN.snoc HNR.out HC.out
      have HX3:=zh ((HX1.out.alloc (.cells #[.string d.name,.slice A1 n1 cap1,.string d.val] 102)).grown hg1 (fun e=>Own.own_blk_ne (hrow.out (.cells #[] 0)) (HX1.out.alloc _) (by decide) e.symm));have HY3:=zh ((HY1.out.alloc (.cells #[.string d.name,.slice A1 n1 cap1,.string d.val] 102)).grown hg1 (fun e=>Own.own_blk_ne (hrow.out (.cells #[] 0)) (HY1.out.alloc _) (by decide) e.symm));have HB3:=zh ((HB1.out.alloc (by omega) _).grown hg1 (by simp;omega) (fun g hg'=>by have:=((hrow.out (.cells #[] 0)).lt g hg').1;omega));clear hown1 hg1 l0 l1 l2 p1 z1;go_wp2_with fail;go_roundw;case rel=>exact⟨k+1,_,by omega,by go_num,HO3.out,HC3.out,HX3.out,HY3.out,HB3.out⟩
      case measure=>simp[intOf];omega
    · have HE:Hid ((fs.take (k+1)).filter P=(fs.take k).filter P):=by unfold Hid;rw[HTS.out,if_neg (by rw[HPd.out];simp)]
      go_wp2_with fail;go_roundw
      case rel =>
       refine⟨k+1,cs,by omega,by go_num,?_,?_,HX1.out,HY1.out,HB1.out⟩
       · unfold Hid;rw[HE.out,HM.out];exact HO1.out
       · unfold Hid;rw[HE.out];exact HC.out
      case measure=>simp[intOf];omega
  · obtain rfl:k=n:=by omega
    have HE:Hid ((fs.take k).filter P=OUT):=by unfold Hid;rw[HOUT.out,List.take_of_length_le (by rw[Hlen.out];omega)]
    have h1:=HO.out;have h2:=HC.out;rw[HE.out]at h1 h2;obtain⟨A4,cap4,rfl,hcap4,hN4⟩:=yN h1 rfl h2 HB.out;have HKO:=zh (zBl A4 _ cap4 OUT wr hN4 HSM.out);clear h1 h2 hN4 HO;go_wp2_with fail;refine HKO.out.mono ?_;rintro e w5 ⟨v5,rfl,hN5,hb5⟩;have HY5:=zh (HY.out.later hb5 HY.out.lt);have HB5:=zh (HB.out.later hb5);obtain⟨A5,cap5,rfl,_,_⟩:=hN5.reads;have HN5:=zh (hN5.base hsz);have p5:=HY5.out.cell 0;have f5:=HY5.out.frozen 0;have z5:=HY5.out.lt;simp at p5;clear hb5 hN5 px;go_wp2_with fail;refine bodyPost_ret (v:=.agg #[.slice A5 _ cap5]) (by simp[results,Tryz.results188,go_sem,p5];try first | exact rfl | exact⟨rfl,rfl⟩) rfl ?_;exact⟨_,rfl,HN5.out.setBlk HY5.out (by decide) (by decide),HB5.out.setCell (show w.heap.size≤w.heap.size+1 by omega) _⟩
end Go.Proofs.YtgmaamnofhmecaaGreatDoor
namespace Go.Proofs.YtgmaamnofhmecaaGreatDoor
open Go.RowKit
set_option linter.unusedVariables false
set_option maxRecDepth 100000 in
theorem zFK (c0 c1 c2 c3:Value) (d:ChgD) (w:World) (h:ChgR w w.heap.size c0 c1 c2 c3 d) (hd:d.small) :
 Calls Tryz.prog 141 #[.agg #[c0,c1,c2,c3]] w fun e w'=>e=.returned (.bool (vR d))∧Below w.heap.size w w':=by
 obtain⟨rfl,rfl,⟨S,m,q,rfl,hs,hmq⟩,rfl⟩:=h;have hm:m≤1048576:=by rw[←hs.1];exact hd.2.1.1
 have HKP:=zh (fun W (hW:Below w.heap.size w W)=>xK d.name S m q d.subs W hd.1 (hs.later hW) hm hd.2.1.2);have HR:Hid (vR d=(wD d.name d.subs&&((decide (d.kind=1)&&decide (d.val.size≤64))||(decide (d.kind=2)&&decide (d.val=⟨#[]⟩))))):=rfl;have hvs:=hd.2.2;clear hs hd;generalize vR d=R at *;generalize wD d.name d.subs=t1 at *;generalize d.name=nm at *;generalize d.val=vl at *;generalize d.kind=kd at *;go_enter Tryz.func141,Tryz.ntmps141;go_wp2_with fail;refine(HKP.out _ (Below.new _ _)).mono ?_;rintro e w2 ⟨rfl,rfl⟩;cases t1
 · have HE:Hid (R=false):=by unfold Hid;rw[HR.out];rfl
   go_wp2_with fail;go_ret;exact⟨zA0 (by first | exact HE.out.symm | (rw[HE.out];first | (simp;done) | (simp;omega) | (rw[Bool.eq_iff_iff];simp))),Below.new _ _⟩
 · by_cases h1:kd=1
   · subst h1;by_cases h64:vl.size≤64
     · have HE:Hid (R=true):=by unfold Hid;rw[HR.out,decide_eq_true h64];rfl
       have h64i:(vl.size:Int)≤64:=by omega
       go_wp2_with fail;go_ret;exact⟨zA0 (by first | exact HE.out.symm | (rw[HE.out];first | (simp;done) | (simp;omega) | (rw[Bool.eq_iff_iff];simp))),Below.new _ _⟩
     · have HE:Hid (R=false):=by unfold Hid;rw[HR.out,decide_eq_false h64];rfl
       have h64i:¬(vl.size:Int)≤64:=by omega
       go_wp2_with fail;go_ret;exact⟨zA0 (by first | exact HE.out.symm | (rw[HE.out];first | (simp;done) | (simp;omega) | (rw[Bool.eq_iff_iff];simp))),Below.new _ _⟩
   · have hb1:(kd==(1:Int))=false:=by rw[beq_eq_false_iff_ne];exact h1
     by_cases h2:kd=2
     · subst h2;by_cases hv:vl=⟨#[]⟩
       · subst hv;have HE:Hid (R=true):=by unfold Hid;rw[HR.out];rfl
         go_wp2_with fail;go_ret;exact⟨zA0 (by first | exact HE.out.symm | (rw[HE.out];first | (simp;done) | (simp;omega) | (rw[Bool.eq_iff_iff];simp))),Below.new _ _⟩
       · have HE:Hid (R=false):=by unfold Hid;rw[HR.out,decide_eq_false hv];rfl
         have hbe:=zG0 hv;have hbe3:=zJx (l:=[]) hv;go_wp2_with fail;go_ret;exact⟨zA0 (by first | exact HE.out.symm | (rw[HE.out];first | (simp;done) | (simp;omega) | (rw[Bool.eq_iff_iff];simp))),Below.new _ _⟩
     · have HE:Hid (R=false):=by unfold Hid;rw[HR.out,decide_eq_false h1,decide_eq_false h2];rfl
       have hb2:(kd==(2:Int))=false:=by rw[beq_eq_false_iff_ne];exact h2
       go_wp2_with fail;go_ret;exact⟨zA0 (by first | exact HE.out.symm | (rw[HE.out];first | (simp;done) | (simp;omega) | (rw[Bool.eq_iff_iff];simp))),Below.new _ _⟩
theorem zGL {d:ChgD} (h:d.small):(⟨d.name,d.subs,d.val⟩:NodeD).small:=h
set_option maxRecDepth 100000 in
theorem zII (A:Option Addr) (n c:Nat) (c0 c1 c2 c3:Value) (fs:List NodeD) (d:ChgD) (w:World) (h:Nodes w w.heap.size A n fs) (hnc:n≤c) (hs:yC fs) (hn:n<1048576) (h':ChgR w w.heap.size c0 c1 c2 c3 d) (hd:d.small) :
 Calls Tryz.prog 142 #[.agg #[.slice A n c],.agg #[c0,c1,c2,c3]] w (zAM (doB fs d) w):=by
 obtain⟨rfl,rfl,⟨S,m,q,rfl,hst,hmq⟩,rfl⟩:=h';have hm:m≤1048576:=by rw[←hst.1];exact hd.2.1.1
 have HKU:=zh (fun W (hW:Below w.heap.size w W)=>zDs A n c fs d.name S m q d.subs d.val W (h.later hW) hnc hs hn (hst.later hW) hmq (zGL hd));have HKK:=zh (fun W (hW:Below w.heap.size w W)=>zGo A n c fs d.name S m q d.subs W (h.later hW) hs (hst.later hW) hm);have HB:Hid (doB fs d=if d.kind=1 then vT fs d.name d.subs d.val else (0,uT fs d.name d.subs)):=rfl;clear h hst hd hs;generalize doB fs d=PB at *;generalize vT fs d.name d.subs d.val=PU at *;generalize uT fs d.name d.subs=KI at *;generalize d.name=nm at *;generalize d.val=vl at *;generalize d.kind=kd at *;have HB0:=zh (((Below.new w (.cells #[.slice A n c] 26)).later (Below.new _ (.cells #[.int .i64 kd,.string nm,.slice S m q,.string vl] 88))).later (Below.new _ (.cells #[.slice none 0 0] 26)));have HYY:Hid (Blk (((w.alloc (.cells #[.slice A n c] 26)).alloc (.cells #[.int .i64 kd,.string nm,.slice S m q,.string vl] 88)).alloc (.cells #[.slice none 0 0] 26)) (w.heap.size+1+1) 26 #[.slice none 0 0]):=yS _ _ _ _;go_enter Tryz.func142,Tryz.ntmps142;by_cases h1:kd=1
 · subst h1;have HE:Hid (PB=PU):=by unfold Hid;rw[HB.out];rfl
   go_wp2_with fail;refine(HKU.out _ HB0.out).mono ?_;rintro e w5 ⟨v5,rfl,hN5,hb5⟩;have HY5:=zh (HYY.out.later hb5 HYY.out.lt);have HB5:=zh (HB0.out.later hb5);obtain⟨A5,cap5,rfl,_,_⟩:=hN5.reads;have HN5:=zh (hN5.base HB0.out.size);have p5:=HY5.out.cell 0;have f5:=HY5.out.frozen 0;have z5:=HY5.out.lt;simp at p5;clear hb5 hN5;go_wp2_with fail;refine bodyPost_ret (v:=.tuple #[.agg #[.slice A5 _ cap5],.int .i64 _]) (by simp[results,Tryz.results142,go_sem,p5];try first | exact rfl | exact⟨rfl,rfl⟩) rfl ?_;exact⟨_,by rw[HE.out],by rw[HE.out];exact HN5.out.setBlk HY5.out (by decide) (by decide),HB5.out.setCell (show w.heap.size≤w.heap.size+1+1 by omega) _⟩
 · have hb1:(kd==(1:Int))=false:=by rw[beq_eq_false_iff_ne];exact h1
   have HE:Hid (PB=(0,KI)):=by unfold Hid;rw[HB.out,if_neg h1]
   go_wp2_with fail;refine(HKK.out _ HB0.out).mono ?_;rintro e w5 ⟨v5,rfl,hN5,hb5⟩;have HY5:=zh (HYY.out.later hb5 HYY.out.lt);have HB5:=zh (HB0.out.later hb5);obtain⟨A5,cap5,rfl,_,_⟩:=hN5.reads;have HN5:=zh (hN5.base HB0.out.size);have p5:=HY5.out.cell 0;have f5:=HY5.out.frozen 0;have z5:=HY5.out.lt;simp at p5;clear hb5 hN5;go_wp2_with fail;refine bodyPost_ret (v:=.tuple #[.agg #[.slice A5 _ cap5],.int .i64 0]) (by simp[results,Tryz.results142,go_sem,p5];try first | exact rfl | exact⟨rfl,rfl⟩) rfl ?_;exact⟨_,by rw[HE.out],by rw[HE.out];exact HN5.out.setBlk HY5.out (by decide) (by decide),HB5.out.setCell (show w.heap.size≤w.heap.size+1+1 by omega) _⟩
set_option maxRecDepth 100000 in
theorem zFI (A:Option Addr) (n c:Nat) (c0 c1 c2 c3:Value) (fs:List NodeD) (d:ChgD) (w:World) (h:Nodes w w.heap.size A n fs) (hnc:n≤c) (hs:yC fs) (h':ChgR w w.heap.size c0 c1 c2 c3 d) (hd:d.small) :
 Calls Tryz.prog 66 #[.agg #[.slice A n c],.agg #[c0,c1,c2,c3]] w (zAM (uJ fs d) w):=by
 have HKT:=zh (fun W (hW:Below w.heap.size w W)=>vF A n c fs W (h.later hW) hs);have HKC:=zh (fun W (hW:Below w.heap.size w W)=>zFK c0 c1 c2 c3 d W (h'.later hW) hd);have HKD:=zh (fun W (hW:Below w.heap.size w W) (ht:xA fs=true)=>zII A n c c0 c1 c2 c3 fs d W (h.later hW) hnc hs (by have:=zAQ ht;rw[h.1]at this;omega) (h'.later hW) hd);have HB:Hid (uJ fs d=if (xA fs&&vR d)=true then doB fs d else (1,[])):=rfl;obtain⟨rfl,rfl,⟨S,m,q,rfl,hst,hmq⟩,rfl⟩:=h';clear h hst hs hd;generalize uJ fs d=PB at *;generalize doB fs d=PU at *;generalize xA fs=t0 at *;generalize vR d=t1 at *;generalize d.name=nm at *;generalize d.val=vl at *;generalize d.kind=kd at *;have HB0:=zh (((Below.new w (.cells #[.slice A n c] 26)).later (Below.new _ (.cells #[.int .i64 kd,.string nm,.slice S m q,.string vl] 88))).later (Below.new _ (.cells #[.slice none 0 0] 26)));have HYY:Hid (Blk (((w.alloc (.cells #[.slice A n c] 26)).alloc (.cells #[.int .i64 kd,.string nm,.slice S m q,.string vl] 88)).alloc (.cells #[.slice none 0 0] 26)) (w.heap.size+1+1) 26 #[.slice none 0 0]):=yS _ _ _ _;have HCC:Hid (Blk (((w.alloc (.cells #[.slice A n c] 26)).alloc (.cells #[.int .i64 kd,.string nm,.slice S m q,.string vl] 88)).alloc (.cells #[.slice none 0 0] 26)) (w.heap.size+1) 88 #[.int .i64 kd,.string nm,.slice S m q,.string vl]):=wO _ _ _ _;have HXX:Hid (Blk (((w.alloc (.cells #[.slice A n c] 26)).alloc (.cells #[.int .i64 kd,.string nm,.slice S m q,.string vl] 88)).alloc (.cells #[.slice none 0 0] 26)) w.heap.size 26 #[.slice A n c]):=xS _ _ _ _;go_enter Tryz.func66,Tryz.ntmps66;go_wp2_with fail;refine(HKT.out _ HB0.out).mono ?_;rintro e w1 ⟨rfl,hb1⟩;have HB1:=zh (HB0.out.later hb1);have HX:=zh (HXX.out.later hb1 HXX.out.lt);have HY:=zh (HYY.out.later hb1 HYY.out.lt);have HC:=zh (HCC.out.later hb1 HCC.out.lt);have px:=HX.out.cell 0;have py:=HY.out.cell 0;have fy:=HY.out.frozen 0;have zy:=HY.out.lt;have q0:=HC.out.cell 0;have q1:=HC.out.cell 1;have q2:=HC.out.cell 2;have q3:=HC.out.cell 3;simp at px py q0 q1 q2 q3;clear hb1;cases t0
 · have HE:Hid (PB=(1,[])):=by unfold Hid;rw[HB.out];rfl
   go_wp2_with fail;refine bodyPost_ret (v:=.tuple #[.agg #[.slice none 0 0],.int .i64 1]) (by simp[results,Tryz.results66,go_sem,py]) rfl ?_;exact⟨_,by rw[HE.out],by rw[HE.out];exact wI _ _,HB1.out.setCell (show w.heap.size≤w.heap.size+1+1 by omega) _⟩
 · go_wp2_with fail;refine(HKC.out _ HB1.out).mono ?_;rintro e w2 ⟨rfl,hb2⟩;have HB2:=zh (HB1.out.later hb2);have HX2:=zh (HX.out.later hb2 HX.out.lt);have HY2:=zh (HY.out.later hb2 HY.out.lt);have HC2:=zh (HC.out.later hb2 HC.out.lt);clear px py fy zy q0 q1 q2 q3;have px:=HX2.out.cell 0;have py:=HY2.out.cell 0;have fy:=HY2.out.frozen 0;have zy:=HY2.out.lt;have q0:=HC2.out.cell 0;have q1:=HC2.out.cell 1;have q2:=HC2.out.cell 2;have q3:=HC2.out.cell 3;simp at px py q0 q1 q2 q3;clear hb2;cases t1
   · have HE:Hid (PB=(1,[])):=by unfold Hid;rw[HB.out];rfl
     go_wp2_with fail;refine bodyPost_ret (v:=.tuple #[.agg #[.slice none 0 0],.int .i64 1]) (by simp[results,Tryz.results66,go_sem,py]) rfl ?_;exact⟨_,by rw[HE.out],by rw[HE.out];exact wI _ _,HB2.out.setCell (show w.heap.size≤w.heap.size+1+1 by omega) _⟩
   · have HE:Hid (PB=PU):=by unfold Hid;rw[HB.out];rfl
     go_wp2_with fail;refine(HKD.out _ HB2.out (by trivial)).mono ?_;rintro e w5 ⟨v5,rfl,hN5,hb5⟩;have HY5:=zh (HY2.out.later hb5 HY2.out.lt);have HB5:=zh (HB2.out.later hb5);obtain⟨A5,cap5,rfl,_,_⟩:=hN5.reads;have HN5:=zh (hN5.base HB2.out.size);clear px py fy zy q0 q1 q2 q3;have p5:=HY5.out.cell 0;have f5:=HY5.out.frozen 0;have z5:=HY5.out.lt;simp at p5;clear hb5 hN5;go_wp2_with fail;refine bodyPost_ret (v:=.tuple #[.agg #[.slice A5 _ cap5],.int .i64 _]) (by simp[results,Tryz.results66,go_sem,p5];try first | exact rfl | exact⟨rfl,rfl⟩) rfl ?_;exact⟨_,by rw[HE.out],by rw[HE.out];exact HN5.out.setBlk HY5.out (by decide) (by decide),HB5.out.setCell (show w.heap.size≤w.heap.size+1+1 by omega) _⟩
end Go.Proofs.YtgmaamnofhmecaaGreatDoor
namespace Go.Proofs.YtgmaamnofhmecaaGreatDoor
open Go.RowKit
set_option linter.unusedVariables false
theorem _root_.Go.Proofs.YtgmaamnofhmecaaGreatDoor.Own.SubO.setBlk {w:World} {base g tp i:Nat} {v u:Value} {ss:List ByteArray} {cs:Array Value} (h:Own.SubO w base v ss) (hB:Blk w g tp cs) (h2:9≠tp):Own.SubO (w.setCell ⟨g,i,none⟩ u) base v ss :=
 World.ownsRow.kept h (Own.grown_set _ _ _ _) (.inr (Own.own_blk_ne h hB h2))
theorem zKb {w:World} {base:Nat} (ss:List ByteArray) (cs:Array Value) (hb:base≤w.heap.size) (hm:ss.length≤1048576) (h:cs=uQ ss):Own.SubO (w.alloc (.cells cs 9)) base (.slice (some ⟨w.heap.size,0,none⟩) ss.length ss.length) ss:=by
 subst h;exact Own.sub_of_blk (heap_alloc_new w _) hb (by unfold maxLen;omega)
end Go.Proofs.YtgmaamnofhmecaaGreatDoor
namespace Go.Proofs.YtgmaamnofhmecaaGreatDoor
open Go.RowKit
set_option linter.unusedVariables false
def zFJ (d:ChgD) (w:World) (e:Ending) (w':World):Prop:=∃v,e=.returned (.agg #[.int .i64 d.kind,.string d.name,v,.string d.val])∧Own.SubO w' w.heap.size v d.subs∧Below w.heap.size w w'
theorem zJk {Z:World} {bs g n:Nat} (ss:List ByteArray) (cs:Array Value) (hg:Z.heap.size=g) (hb:bs≤g) (hn:ss.length=n) (hm:n≤1048576) (h:cs=uQ ss):Own.SubO (Z.alloc (.cells cs 9)) bs (.slice (some ⟨g,0,none⟩) n n) ss:=by
 subst hg hn;exact zKb ss cs hb hm h
theorem yK {w w':World} {bs:Nat} {v:Value} {ss:List ByteArray} (h:Own.SubO w bs v ss) (hb:Below w.heap.size w w'):Own.SubO w' bs v ss:=Own.own_later h hb
theorem zBt {w:World} {bs g t:Nat} {v:Value} {ss:List ByteArray} {a0 a1 a2 a3:Value} (h:Own.SubO w bs v ss) (hB:Blk w g t #[a0,a1,a2,a3]) (ht:9≠t) (x0 x1 x2 x3:Value):Own.SubO ((((w.setCell ⟨g,0,none⟩ x0).setCell ⟨g,1,none⟩ x1).setCell ⟨g,2,none⟩ x2).setCell ⟨g,3,none⟩ x3) bs v ss :=
 (((h.setBlk hB ht).setBlk (hB.set_ 0 x0) ht).setBlk ((hB.set_ 0 x0).set_ 1 x1) ht).setBlk (((hB.set_ 0 x0).set_ 1 x1).set_ 2 x2) ht
theorem zAd {a w:World} {B g:Nat} (h:Below B a w) (hg:B≤g) (x0 x1 x2 x3:Value):Below B a ((((w.setCell ⟨g,0,none⟩ x0).setCell ⟨g,1,none⟩ x1).setCell ⟨g,2,none⟩ x2).setCell ⟨g,3,none⟩ x3) :=
 (((h.setCell (p:=⟨g,0,none⟩) hg _).setCell (p:=⟨g,1,none⟩) hg _).setCell (p:=⟨g,2,none⟩) hg _).setCell (p:=⟨g,3,none⟩) hg _
end Go.Proofs.YtgmaamnofhmecaaGreatDoor
namespace Go.Proofs.YtgmaamnofhmecaaGreatDoor
open Go.RowKit
set_option linter.unusedVariables false
theorem Drawn.set {p K:Nat} {a b:World} (h:Drawn p K a b) {g:Nat} (hg:a.heap.size≤g) (hp:p<a.heap.size) (i:Nat) (u:Value):Drawn p K a (b.setCell ⟨g,i,none⟩ u) :=
 h.grown (Own.grown_set b g i u) (fun g' e=>by cases e;exact hg) hp
theorem Drawn.own {p K:Nat} {a b c:World} {P:Nat→Prop} (h:Drawn p K a b) (k:Own.Chg P b c) (hP:∀g,P g→a.heap.size≤g) (hp:p<a.heap.size):Drawn p K a c :=
 ⟨h.src.chg k (fun g hg=>Nat.lt_of_lt_of_le hp (hP g hg)),h.chg.fresh k hP⟩
theorem zKh {w:World} {base e size n t:Nat} {v:Value} {xs:List Value} {P:Nat→Prop} (h:w.ownsRow base e size v n xs) (hne:e≠t) (hB:∀g,P g→∃cs,Blk w g t cs):Own.inP (fun g=>¬P g) v:=fun g hg hp=>by
 obtain⟨cs,hb⟩:=hB g hp;exact Own.own_blk_ne h hb hne hg
theorem vY {P:Nat→Prop} {a b:World} {g i:Nat} {u:Value} (h:Own.Chg P a b) (hg:P g):Own.Chg P a (b.setCell ⟨g,i,none⟩ u):=h.set hg i u
end Go.Proofs.YtgmaamnofhmecaaGreatDoor
