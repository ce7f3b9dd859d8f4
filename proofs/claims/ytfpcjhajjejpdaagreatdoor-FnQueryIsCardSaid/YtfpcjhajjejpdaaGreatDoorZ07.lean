import Derived.Test.YtfpcjhajjejpdaaGreatDoorZ05
import Derived.Test.YtfpcjhajjejpdaaGreatDoorZ06
import Derived.Test.YtfpcjhajjejpdaaGreatDoorZ00
import Derived.Deep.RegionHeld3
set_option maxHeartbeats 1000000
open Go.Lib renaming hid → zh
namespace Go.Proofs.YtfpcjhajjejpdaaGreatDoor
open Go.RowKit
def wL {α:Type} (p:α→Bool):List α→Nat→Int
 | [],_=>-1
 | d::r,k=>if p d=true then k else wL p r (k+1)
theorem zAw {α:Type} [Inhabited α] (p:α→Bool) (l:List α) (k:Nat) (h:k<l.length):wL p (l.drop k) k=if p (l.getD k default)=true then (k:Int) else wL p (l.drop (k+1)) (k+1):=by
 rw[List.drop_eq_getElem_cons h];simp[wL,List.getD_eq_getElem?_getD,List.getElem?_eq_getElem h]
end Go.Proofs.YtfpcjhajjejpdaaGreatDoor
namespace Go.Proofs.YtfpcjhajjejpdaaGreatDoor
open Go.RowKit
theorem zLw (w:World) (x y:Value) (t:TypeId):(w.alloc (.cells #[x,y] t)).cell? ⟨w.heap.size,0,none⟩=some x:=cell_of_row _ w.heap.size 0 #[x,y] t (0,0) (heap_alloc_new w _)
theorem zLv (w:World) (x y:Value) (t:TypeId):(w.alloc (.cells #[x,y] t)).cell? ⟨w.heap.size,1,none⟩=some y:=cell_of_row _ w.heap.size 1 #[x,y] t (0,0) (heap_alloc_new w _)
theorem zBi (nm nm':ByteArray) (A A':Option Addr) (n c n' c':Nat) (ss ts:List ByteArray) (w:World) (htab:zU0 w) (h:Strs w w.heap.size A n ss) (h':Strs w w.heap.size A' n' ts) (hn:n≤1048576) (hn':n'≤1048576)
 (hz:∀s∈ss,s.size≤1048576) (hz':∀s∈ts,s.size≤1048576) :
 Calls Tryz.prog 101 #[.string nm,.slice A n c,.string nm',.slice A' n' c'] w fun e w'=>e=.returned (.int .i64 (zAo nm ss nm' ts))∧Below w.heap.size w w':=by
 have HK1:=zh (zHj nm nm' w);have HK2:=zh (zCN A A' n c n' c' ss ts w htab h h' hn hn' hz hz');have HR:Hid (zAo nm ss nm' ts=orI (zAS nm nm') (uX ss ts)):=rfl;clear htab h h' hz hz';generalize zAo nm ss nm' ts=R at *;generalize zAS nm nm'=x at *;generalize uX ss ts=y at *;go_enter Tryz.func101,Tryz.ntmps101;go_wp2_with fail;refine HK1.out.mono ?_;rintro e w1 ⟨rfl,rfl⟩;go_wp2_with fail;refine HK2.out.mono ?_;rintro e w1 ⟨rfl,hb1⟩;have HB1:=zh hb1;clear hb1;go_wp2_with fail;refine(zLB _ x y _ (zLw _ _ _ _) (zLv _ _ _ _)).mono ?_;rintro e w2 ⟨rfl,rfl⟩;go_wp2_with fail;go_ret;exact⟨vB HR.out.symm,HB1.out.later (Below.new _ _)⟩
theorem Strs.take {w:World} {B n:Nat} {A:Option Addr} {ss:List ByteArray} (h:Strs w B A n ss) (m:Nat) (hm:m≤n):Strs w B A m (ss.take m) :=
 ⟨by rw[List.length_take,h.1];omega,fun hp=>by
   obtain⟨b,o,e,hb,hc⟩:=h.2 (by omega);refine⟨b,o,e,hb,fun j hj=>?_⟩;rw[hc j (by omega)]
   simp[List.getD_eq_getElem?_getD,hj]⟩
theorem zBQ:∀(a b:List ByteArray),(decide (a.length≤b.length)&&eqS (b.take a.length) a)=xF a b
 | [],b=>by simp[xF,eqS]
 | x::r,[]=>by simp[xF]
 | x::r,y::s=>by
   have:=zBQ r s;simp only[xF,List.length_cons,List.take_succ_cons];rw[←this];unfold eqS;by_cases hx:x=y
   · subst hx;simp
   · have hyx:¬y=x:=fun h=>hx h.symm;simp[hx,hyx]
end Go.Proofs.YtfpcjhajjejpdaaGreatDoor
namespace Go.Proofs.YtfpcjhajjejpdaaGreatDoor
open Go.RowKit
theorem zCc (A A':Option Addr) (n c n' c':Nat) (ss ts:List ByteArray) (w:World) (h:Strs w w.heap.size A n ss) (h':Strs w w.heap.size A' n' ts) (hn:n≤1048576) (hn':n'≤1048576)
 (hz:∀s∈ss,s.size≤1048576) (hz':∀s∈ts,s.size≤1048576) :
 Calls Tryz.prog 210 #[.slice A n c,.slice A' n' c'] w fun e w'=>e=.returned (.bool (vI ss ts))∧Below w.heap.size w w':=by
 obtain⟨hlen,hc⟩:=h;obtain⟨hlen',hc'⟩:=h';have Hc:=zh hc;have Hlen:=zh hlen;have Hc':=zh hc';have Hlen':=zh hlen';have Hz:=zh hz;have Hz':=zh hz';clear hc hlen hc' hlen' hz hz';go_enter Tryz.func210,Tryz.ntmps210;go_wp2_with fail;go_loopw [5] (fun i wr=>∃(k:Nat),k≤n∧k≤n'∧i=.int .i64 k∧(∃q,wr=w.drewN q)∧Hid (vI ss ts=vI (ss.drop k) (ts.drop k))) (fun i _=>n-(intOf i).toNat);case atStart=>exact⟨0,Nat.zero_le _,Nat.zero_le _,rfl,⟨0,rfl⟩,rfl⟩
 case round =>
  obtain⟨k,hk,hk',rfl,⟨q,rfl⟩,hS⟩:=hrel;by_cases hlt:k<n
  · by_cases hlt':k<n'
    · obtain⟨b,o,rfl,hb,hcell⟩:=Hc.out (by omega);obtain⟨b',o',rfl,hb',hcell'⟩:=Hc'.out (by omega);have hck:=hcell k hlt;have hck':=hcell' k hlt';clear hcell hcell';have HS:=zh (zIc ss ts k (by rw[Hlen.out];exact hlt) (by rw[Hlen'.out];omega));have HK:=zh (fun W=>zBA (ss.getD k ByteArray.empty) (ts.getD k ByteArray.empty) W (zAi Hz.out k (by rw[Hlen.out];exact hlt)) (zAi Hz'.out k (by rw[Hlen'.out];exact hlt')));generalize ss.getD k ByteArray.empty=s at *;generalize ts.getD k ByteArray.empty=t at *;generalize yB s t=x at *;go_wp2_with fail
      go_quiet (fail)
      go_wp2_with fail
      · have hst:s≠t:=zHF (by assumption);have HF:Hid (vI ss ts=x):=by unfold Hid;rw[hS.out,HS.out,if_neg hst]
        clear hst
        go_region_held3 (fun w'=>w'.cell? ⟨b,o+k,none⟩=some (.string s)∧w'.cell? ⟨b',o'+k,none⟩=some (.string t)) (first | exact⟨hck,hck'⟩ | exact⟨cell_later hb1 hck,cell_later hb1 hck'⟩)
         (first | (go_at_call 55;refine(HK.out _).mono ?_;rintro e w1 ⟨rfl,hb1'⟩;have hb1:=zIH hb1';clear hb1'))
        have HB1:=zh hb1;clear hb1;go_wp2_with fail;go_ret;exact⟨zA0 HF.out.symm,HB1.out⟩
      · go_roundw;case rel=>have hst:s=t:=zHG (by assumption);exact⟨k+1,by omega,by omega,by go_num,⟨_,rfl⟩,by unfold Hid;rw[hS.out,HS.out,if_pos hst]⟩
        case measure=>simp[intOf];omega
    · have HF:Hid (vI ss ts=decide (n<n')):=by unfold Hid;rw[hS.out,zFj _ _ (Or.inr (List.drop_of_length_le (by rw[Hlen'.out];omega))),List.length_drop,List.length_drop,Hlen.out,Hlen'.out];rw[Bool.eq_iff_iff];simp <;> omega
      go_wp2_with fail;go_ret;exact⟨zA0 HF.out.symm,vA (Below.refl _ _) _⟩
  · have HF:Hid (vI ss ts=decide (n<n')):=by unfold Hid;rw[hS.out,zFj _ _ (Or.inl (List.drop_of_length_le (by rw[Hlen.out];omega))),List.length_drop,List.length_drop,Hlen.out,Hlen'.out];rw[Bool.eq_iff_iff];simp <;> omega
    go_wp2_with fail;go_ret;exact⟨zA0 HF.out.symm,vA (Below.refl _ _) _⟩
theorem zBD (A A':Option Addr) (n c n' c':Nat) (ss ts:List ByteArray) (w:World) (h:Strs w w.heap.size A n ss) (h':Strs w w.heap.size A' n' ts) (hn:n≤1048576) (hn':n'≤1048576)
 (hz:∀s∈ss,s.size≤1048576) (hz':∀s∈ts,s.size≤1048576) :
 Calls Tryz.prog 171 #[.slice A n c,.slice A' n' c'] w fun e w'=>e=.returned (.bool (vI ss ts))∧Below w.heap.size w w':=by
 have HK:=zh (zCc A A' n c n' c' ss ts w h h' hn hn' hz hz');clear h h' hz hz';generalize vI ss ts=x at *;go_enter Tryz.func171,Tryz.ntmps171;go_wp2_with fail;refine HK.out.mono ?_;rintro e w1 ⟨rfl,hb1⟩;have HB:=zh hb1;clear hb1;go_wp2_with fail;go_ret;exact⟨rfl,HB.out⟩
theorem vY (nm:ByteArray) (A:Option Addr) (n c:Nat) (ss:List ByteArray) (w:World) (hs:nm.size≤1048576) (h:Strs w w.heap.size A n ss) (hn:n≤1048576) (hz:∀s∈ss,s.size≤1048576) :
 Calls Tryz.prog 132 #[.string nm,.slice A n c] w fun e w'=>e=.returned (.bool (zH0 nm ss))∧w=w':=by
 have HK1:=zh (vD nm w hs);have HK2:=zh (zDJ A n c ss w h hn hz);have hR:zH0 nm ss=zH0 nm ss:=rfl
 conv at hR=>rhs;unfold zH0
 generalize zH0 nm ss=R at *;clear h hz;generalize zB0 nm=x at *;generalize xQ ss=y at *;have HR:=zh hR;clear hR;go_enter Tryz.func132,Tryz.ntmps132;go_wp2_with fail;refine HK1.out.mono ?_;rintro e w1 ⟨rfl,rfl⟩;cases x
 · go_wp2_with fail;go_ret;exact⟨zA0 (by rw[HR.out];rfl),rfl⟩
 · go_wp2_with fail;refine HK2.out.mono ?_;rintro e w1 ⟨rfl,rfl⟩;go_wp2_with fail;go_ret;exact⟨zA0 (by rw[HR.out];rfl),rfl⟩
def zAd (n:ByteArray) (s:List ByteArray) (n':ByteArray) (s':List ByteArray):Bool:=Op.bytesLess n.toList n'.toList||(decide (n=n')&&vI s s')
theorem zDg (nm nm':ByteArray) (A A':Option Addr) (n c n' c':Nat) (ss ts:List ByteArray) (w:World) (h:Strs w w.heap.size A n ss) (h':Strs w w.heap.size A' n' ts) (hn:n≤1048576) (hn':n'≤1048576)
 (hz:∀s∈ss,s.size≤1048576) (hz':∀s∈ts,s.size≤1048576) :
 Calls Tryz.prog 117 #[.string nm,.slice A n c,.string nm',.slice A' n' c'] w fun e w'=>e=.returned (.bool (zAd nm ss nm' ts))∧Below w.heap.size w w':=by
 have HK:=zh (zBD A A' n c n' c' ss ts w h h' hn hn' hz hz');have hR:zAd nm ss nm' ts=(Op.bytesLess nm.toList nm'.toList||(decide (nm=nm')&&vI ss ts)):=rfl;generalize zAd nm ss nm' ts=R at *;clear h h' hz hz';generalize vI ss ts=x at *;cases hl:Op.bytesLess nm.toList nm'.toList
 · by_cases he:nm=nm'
   · have HE:Hid (R=x):=by unfold Hid;rw[hR,hl];simp[he]
     subst he;clear hR;go_enter Tryz.func117,Tryz.ntmps117;go_wp2_with fail;refine HK.out.mono ?_;rintro e w1 ⟨rfl,hb1⟩;have HB:=zh hb1;clear hb1;go_wp2_with fail;go_ret;exact⟨zA0 HE.out.symm,HB.out⟩
   · have HE:Hid (R=false):=by unfold Hid;rw[hR,hl];simp[he]
     have hb:=uC he;clear hR he;go_enter Tryz.func117,Tryz.ntmps117;go_wp2_with fail;go_ret;exact⟨zA0 HE.out.symm,Below.refl _ _⟩
 · have HE:Hid (R=true):=by unfold Hid;rw[hR,hl];rfl
   clear hR;go_enter Tryz.func117,Tryz.ntmps117;go_wp2_with fail;go_ret;exact⟨zA0 HE.out.symm,Below.refl _ _⟩
def yZ (d:NodeD):Bool:=zH0 d.name d.subs&&decide (d.val.size≤64)
theorem zGM (c0 c1 c2:Value) (d:NodeD) (w:World) (h:NodeR w w.heap.size c0 c1 c2 d) (hs:d.small) :
 Calls Tryz.prog 116 #[.agg #[c0,c1,c2]] w fun e w'=>e=.returned (.bool (yZ d))∧Below w.heap.size w w':=by
 obtain⟨rfl,⟨A,n,cap,rfl,hS,_⟩,rfl⟩:=h;obtain⟨f1,⟨f2,f3⟩,f4⟩:=hs;have HK:=zh (fun o=>vY d.name A n cap d.subs (w.alloc o) f1 (hS.later (Below.new _ _)) (by rw[←hS.1];exact f2) f3);have hR:yZ d=(zH0 d.name d.subs&&decide (d.val.size≤64)):=rfl;generalize yZ d=R at *;generalize zH0 d.name d.subs=x at *;clear hS f2 f3 f1;generalize d.val=v at *;generalize d.name=nm at *;cases x
 · have HE:Hid (R=false):=by unfold Hid;rw[hR];rfl
   clear hR;go_enter Tryz.func116,Tryz.ntmps116;go_wp2_with fail;refine(HK.out _).mono ?_;rintro e w1 ⟨rfl,rfl⟩;go_wp2_with fail;go_ret;exact⟨zA0 HE.out.symm,Below.new _ _⟩
 · have HE:Hid (R=decide (v.size≤64)):=by unfold Hid;rw[hR];rfl
   clear hR;go_enter Tryz.func116,Tryz.ntmps116;go_wp2_with fail;refine(HK.out _).mono ?_;rintro e w1 ⟨rfl,rfl⟩;by_cases hv:v.size≤64
   · have HE2:Hid (R=true):=by unfold Hid;rw[HE.out];simp[hv]
     go_wp2_with fail;go_ret;exact⟨zA0 (by rw[HE.out];first | (simp;done) | (simp;omega) | (rw[Bool.eq_iff_iff];simp)),Below.new _ _⟩
   · have HE2:Hid (R=false):=by unfold Hid;rw[HE.out];simp[hv]
     go_wp2_with fail;go_ret;exact⟨zA0 (by rw[HE.out];first | (simp;done) | (simp;omega) | (rw[Bool.eq_iff_iff];simp)),Below.new _ _⟩
end Go.Proofs.YtfpcjhajjejpdaaGreatDoor
