import Derived.Test.YtgmaamnofhmecaaGreatDoorY09
import Derived.Test.YtgmaamnofhmecaaGreatDoorY01
import Derived.Deep.RegionHeld3
set_option linter.unusedSimpArgs false
set_option maxHeartbeats 1000000
open Go.Lib renaming hid → zh
namespace Go.Proofs.YtgmaamnofhmecaaGreatDoor
open Go.RowKit
theorem zBD (A A':Option Addr) (n c n' c':Nat) (ss ts:List ByteArray) (w:World) (h:Strs w w.heap.size A n ss) (h':Strs w w.heap.size A' n' ts) (hn:n≤1048576) (hn':n'≤1048576)
 (hz:∀s∈ss,s.size≤1048576) (hz':∀s∈ts,s.size≤1048576) :
 Calls Tryz.prog 230 #[.slice A n c,.slice A' n' c'] w fun e w'=>e=.returned (.bool (vE ss ts))∧Below w.heap.size w w':=by
 obtain⟨hlen,hc⟩:=h;obtain⟨hlen',hc'⟩:=h';have Hc:=zh hc;have Hlen:=zh hlen;have Hc':=zh hc';have Hlen':=zh hlen';have Hz:=zh hz;have Hz':=zh hz';clear hc hlen hc' hlen' hz hz';go_enter Tryz.func230,Tryz.ntmps230;go_wp2_with fail;go_loopw [5] (fun i wr=>∃(k:Nat),k≤n∧k≤n'∧i=.int .i64 k∧(∃q,wr=w.drewN q)∧Hid (vE ss ts=vE (ss.drop k) (ts.drop k))) (fun i _=>n-(intOf i).toNat);case atStart=>exact⟨0,Nat.zero_le _,Nat.zero_le _,rfl,⟨0,rfl⟩,rfl⟩
 case round =>
  obtain⟨k,hk,hk',rfl,⟨q,rfl⟩,hS⟩:=hrel;by_cases hlt:k<n
  · by_cases hlt':k<n'
    · obtain⟨b,o,rfl,hb,hcell⟩:=Hc.out (by omega);obtain⟨b',o',rfl,hb',hcell'⟩:=Hc'.out (by omega);have hck:=hcell k hlt;have hck':=hcell' k hlt';clear hcell hcell';have HS:=zh (zHu ss ts k (by rw[Hlen.out];exact hlt) (by rw[Hlen'.out];omega));have HK:=zh (fun W=>zBh (ss.getD k ByteArray.empty) (ts.getD k ByteArray.empty) W (zCV Hz.out k (by rw[Hlen.out];exact hlt)) (zCV Hz'.out k (by rw[Hlen'.out];exact hlt')));generalize ss.getD k ByteArray.empty=s at *;generalize ts.getD k ByteArray.empty=t at *;generalize uA s t=x at *;go_wp2_with fail
      go_quiet (fail)
      go_wp2_with fail
      · have hst:s≠t:=zEZ (by assumption);have HF:Hid (vE ss ts=x):=by unfold Hid;rw[hS.out,HS.out,if_neg hst]
        clear hst
        go_region_held3 (fun w'=>w'.cell? ⟨b,o+k,none⟩=some (.string s)∧w'.cell? ⟨b',o'+k,none⟩=some (.string t)) (first | exact⟨hck,hck'⟩ | exact⟨cell_later hb1 hck,cell_later hb1 hck'⟩)
         (first | (go_at_call 264;refine(HK.out _).mono ?_;rintro e w1 ⟨rfl,hb1'⟩;have hb1:=zEX hb1';clear hb1'))
        have HB1:=zh hb1;clear hb1;go_wp2_with fail;go_ret;exact⟨zA0 HF.out.symm,HB1.out⟩
      · go_roundw;case rel=>have hst:s=t:=zFb (by assumption);exact⟨k+1,by omega,by omega,by go_num,⟨_,rfl⟩,by unfold Hid;rw[hS.out,HS.out,if_pos hst]⟩
        case measure=>simp[intOf];omega
    · have HF:Hid (vE ss ts=decide (n<n')):=by unfold Hid;rw[hS.out,zEz _ _ (Or.inr (List.drop_of_length_le (by rw[Hlen'.out];omega))),List.length_drop,List.length_drop,Hlen.out,Hlen'.out];rw[Bool.eq_iff_iff];simp <;> omega
      go_wp2_with fail;go_ret;exact⟨zA0 HF.out.symm,vA (Below.refl _ _) _⟩
  · have HF:Hid (vE ss ts=decide (n<n')):=by unfold Hid;rw[hS.out,zEz _ _ (Or.inl (List.drop_of_length_le (by rw[Hlen.out];omega))),List.length_drop,List.length_drop,Hlen.out,Hlen'.out];rw[Bool.eq_iff_iff];simp <;> omega
    go_wp2_with fail;go_ret;exact⟨zA0 HF.out.symm,vA (Below.refl _ _) _⟩
theorem yT (A A':Option Addr) (n c n' c':Nat) (ss ts:List ByteArray) (w:World) (h:Strs w w.heap.size A n ss) (h':Strs w w.heap.size A' n' ts) (hn:n≤1048576) (hn':n'≤1048576)
 (hz:∀s∈ss,s.size≤1048576) (hz':∀s∈ts,s.size≤1048576) :
 Calls Tryz.prog 179 #[.slice A n c,.slice A' n' c'] w fun e w'=>e=.returned (.bool (vE ss ts))∧Below w.heap.size w w':=by
 have HK:=zh (zBD A A' n c n' c' ss ts w h h' hn hn' hz hz');clear h h' hz hz';generalize vE ss ts=x at *;go_enter Tryz.func179,Tryz.ntmps179;go_wp2_with fail;refine HK.out.mono ?_;rintro e w1 ⟨rfl,hb1⟩;have HB:=zh hb1;clear hb1;go_wp2_with fail;go_ret;exact⟨rfl,HB.out⟩
theorem xK (nm:ByteArray) (A:Option Addr) (n c:Nat) (ss:List ByteArray) (w:World) (hs:nm.size≤1048576) (h:Strs w w.heap.size A n ss) (hn:n≤1048576) (hz:∀s∈ss,s.size≤1048576) :
 Calls Tryz.prog 111 #[.string nm,.slice A n c] w fun e w'=>e=.returned (.bool (wD nm ss))∧w=w':=by
 have HK1:=zh (wT nm w hs);have HK2:=zh (zK0 A n c ss w h hn hz);have hR:wD nm ss=wD nm ss:=rfl
 conv at hR=>rhs;unfold wD
 generalize wD nm ss=R at *;clear h hz;generalize xF nm=x at *;generalize xC ss=y at *;have HR:=zh hR;clear hR;go_enter Tryz.func111,Tryz.ntmps111;go_wp2_with fail;refine HK1.out.mono ?_;rintro e w1 ⟨rfl,rfl⟩;cases x
 · go_wp2_with fail;go_ret;exact⟨zA0 (by rw[HR.out];rfl),rfl⟩
 · go_wp2_with fail;refine HK2.out.mono ?_;rintro e w1 ⟨rfl,rfl⟩;go_wp2_with fail;go_ret;exact⟨zA0 (by rw[HR.out];rfl),rfl⟩
def uU (n:ByteArray) (s:List ByteArray) (n':ByteArray) (s':List ByteArray):Bool:=Op.bytesLess n.toList n'.toList||(decide (n=n')&&vE s s')
theorem zCx (nm nm':ByteArray) (A A':Option Addr) (n c n' c':Nat) (ss ts:List ByteArray) (w:World) (h:Strs w w.heap.size A n ss) (h':Strs w w.heap.size A' n' ts) (hn:n≤1048576) (hn':n'≤1048576)
 (hz:∀s∈ss,s.size≤1048576) (hz':∀s∈ts,s.size≤1048576) :
 Calls Tryz.prog 110 #[.string nm,.slice A n c,.string nm',.slice A' n' c'] w fun e w'=>e=.returned (.bool (uU nm ss nm' ts))∧Below w.heap.size w w':=by
 have HK:=zh (yT A A' n c n' c' ss ts w h h' hn hn' hz hz');have hR:uU nm ss nm' ts=(Op.bytesLess nm.toList nm'.toList||(decide (nm=nm')&&vE ss ts)):=rfl;generalize uU nm ss nm' ts=R at *;clear h h' hz hz';generalize vE ss ts=x at *;cases hl:Op.bytesLess nm.toList nm'.toList
 · by_cases he:nm=nm'
   · have HE:Hid (R=x):=by unfold Hid;rw[hR,hl];simp[he]
     subst he;clear hR;go_enter Tryz.func110,Tryz.ntmps110;go_wp2_with fail;refine HK.out.mono ?_;rintro e w1 ⟨rfl,hb1⟩;have HB:=zh hb1;clear hb1;go_wp2_with fail;go_ret;exact⟨zA0 HE.out.symm,HB.out⟩
   · have HE:Hid (R=false):=by unfold Hid;rw[hR,hl];simp[he]
     have hb:=zG0 he;clear hR he;go_enter Tryz.func110,Tryz.ntmps110;go_wp2_with fail;go_ret;exact⟨zA0 HE.out.symm,Below.refl _ _⟩
 · have HE:Hid (R=true):=by unfold Hid;rw[hR,hl];rfl
   clear hR;go_enter Tryz.func110,Tryz.ntmps110;go_wp2_with fail;go_ret;exact⟨zA0 HE.out.symm,Below.refl _ _⟩
def yR (d:NodeD):Bool:=wD d.name d.subs&&decide (d.val.size≤64)
theorem zGn (c0 c1 c2:Value) (d:NodeD) (w:World) (h:NodeR w w.heap.size c0 c1 c2 d) (hs:d.small) :
 Calls Tryz.prog 109 #[.agg #[c0,c1,c2]] w fun e w'=>e=.returned (.bool (yR d))∧Below w.heap.size w w':=by
 obtain⟨rfl,⟨A,n,cap,rfl,hS,_⟩,rfl⟩:=h;obtain⟨f1,⟨f2,f3⟩,f4⟩:=hs;have HK:=zh (fun o=>xK d.name A n cap d.subs (w.alloc o) f1 (hS.later (Below.new _ _)) (by rw[←hS.1];exact f2) f3);have hR:yR d=(wD d.name d.subs&&decide (d.val.size≤64)):=rfl;generalize yR d=R at *;generalize wD d.name d.subs=x at *;clear hS f2 f3 f1;generalize d.val=v at *;generalize d.name=nm at *;cases x
 · have HE:Hid (R=false):=by unfold Hid;rw[hR];rfl
   clear hR;go_enter Tryz.func109,Tryz.ntmps109;go_wp2_with fail;refine(HK.out _).mono ?_;rintro e w1 ⟨rfl,rfl⟩;go_wp2_with fail;go_ret;exact⟨zA0 HE.out.symm,Below.new _ _⟩
 · have HE:Hid (R=decide (v.size≤64)):=by unfold Hid;rw[hR];rfl
   clear hR;go_enter Tryz.func109,Tryz.ntmps109;go_wp2_with fail;refine(HK.out _).mono ?_;rintro e w1 ⟨rfl,rfl⟩;by_cases hv:v.size≤64
   · have HE2:Hid (R=true):=by unfold Hid;rw[HE.out];simp[hv]
     go_wp2_with fail;go_ret;exact⟨zA0 (by rw[HE.out];first | (simp;done) | (simp;omega) | (rw[Bool.eq_iff_iff];simp)),Below.new _ _⟩
   · have HE2:Hid (R=false):=by unfold Hid;rw[HE.out];simp[hv]
     go_wp2_with fail;go_ret;exact⟨zA0 (by rw[HE.out];first | (simp;done) | (simp;omega) | (rw[Bool.eq_iff_iff];simp)),Below.new _ _⟩
end Go.Proofs.YtgmaamnofhmecaaGreatDoor
