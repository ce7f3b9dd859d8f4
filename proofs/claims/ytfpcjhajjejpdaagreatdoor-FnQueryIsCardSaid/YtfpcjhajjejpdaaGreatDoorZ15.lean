import Derived.Test.YtfpcjhajjejpdaaGreatDoorZ11
import Derived.Test.YtfpcjhajjejpdaaGreatDoorZ14
import Derived.Test.YtfpcjhajjejpdaaGreatDoorZ01
import Derived.Lib.TrimUEq
import Derived.Shelf.GgClosure.StringsIndexFuncTop
import Derived.Lib.IndexAny
set_option maxHeartbeats 1000000
open Go.Lib renaming hid → zh
namespace Go.Proofs.YtfpcjhajjejpdaaGreatDoor
open Go.RowKit
theorem zFf:∀(l:List ByteArray) (x:ByteArray) (k:Nat),Lib.idxFromS l x k=yN (fun y=>decide (y=x)) l k
 | [],_,_=>rfl
 | s::r,x,k=>by
   have:=zFf r x (k+1);by_cases e:s=x
   · simp[Lib.idxFromS,yN,e]
   · simp[Lib.idxFromS,yN,e,this]
theorem zDQ (l:List ByteArray) (x:ByteArray):Lib.idxOfS l x=xA l x:=zFf l x 0
theorem zEE (A:Option Addr) (n c:Nat) (ss:List ByteArray) (x:ByteArray) (w:World) (h:Strs w w.heap.size A n ss) (hn:n≤1048576) :
 Calls Tryz.prog 127 #[.slice A n c,.string x] w fun e w'=>e=.returned (.int .i64 (xA ss x))∧w=w':=by
 rcases Nat.eq_zero_or_pos n with h0 | h0
 · subst h0;obtain rfl:ss=[]:=List.eq_nil_of_length_eq_zero h.1;exact(Tryz.slices_Index_string_empty A c x w).mono fun e w' ⟨he,hw⟩=>⟨by rw[he,zDQ],hw.symm⟩
 · obtain⟨b,o,rfl,hb,hc⟩:=h.2 h0;have hl:=h.1;refine(Tryz.slices_Index_string b o n c ss x w (by omega) (by omega) (fun j hj=>hc j (by omega))).mono fun e w' ⟨he,hw⟩=>⟨?_,hw.symm⟩;rw[he,List.take_of_length_le (by omega),zDQ]
theorem zEW (A:Option Addr) (n c:Nat) (ss:List ByteArray) (x:ByteArray) (w:World) (h:Strs w w.heap.size A n ss) (hn:n≤1048576) :
 Calls Tryz.prog 64 #[.slice A n c,.string x] w fun e w'=>e=.returned (.bool (decide (0≤xA ss x)))∧w=w':=by
 rcases Nat.eq_zero_or_pos n with h0 | h0
 · subst h0;obtain rfl:ss=[]:=List.eq_nil_of_length_eq_zero h.1;exact(Tryz.slices_Contains_string_empty A c x w).mono fun e w' ⟨he,hw⟩=>⟨by rw[he];rfl,hw.symm⟩
 · obtain⟨b,o,rfl,hb,hc⟩:=h.2 h0;have hl:=h.1;refine(Tryz.slices_Contains_string b o n c ss x w (by omega) (by omega) (fun j hj=>hc j (by omega))).mono fun e w' ⟨he,hw⟩=>⟨?_,hw.symm⟩;rw[he,List.take_of_length_le (by omega),Lib.containsS,zDQ]
def zEy (r:Nat):Bool:=decide (r<32)||(decide (126<r)||decide (r=94))
theorem zHo (r:Nat) (w:World) :
 Calls Tryz.prog 219 #[.int .i32 r] w fun e w'=>e=.returned (.bool (zEy r))∧w=w':=by
 have HR:Hid (zEy r=(decide (r<32)||(decide (126<r)||decide (r=94)))):=rfl;generalize zEy r=R at *;by_cases h1:r<32
 · have HE:Hid (R=true):=by unfold Hid;rw[HR.out,decide_eq_true h1];rfl
   go_enter Tryz.func219,Tryz.ntmps219;go_wp2_with fail;go_ret;exact⟨zA0 HE.out.symm,rfl⟩
 · by_cases h2:126<r
   · have HE:Hid (R=true):=by unfold Hid;rw[HR.out,decide_eq_true h2];simp
     go_enter Tryz.func219,Tryz.ntmps219;go_wp2_with fail;go_ret;exact⟨zA0 HE.out.symm,rfl⟩
   · by_cases h3:r=94
     · have HE:Hid (R=true):=by unfold Hid;rw[HR.out,decide_eq_true h3];simp
       subst h3;go_enter Tryz.func219,Tryz.ntmps219;go_wp2_with fail;go_ret;exact⟨zA0 HE.out.symm,rfl⟩
     · have HE:Hid (R=false):=by unfold Hid;rw[HR.out,decide_eq_false h1,decide_eq_false h2,decide_eq_false h3];rfl
       have hb:((r:Int)==94)=false:=by rw[beq_eq_false_iff_ne];omega
       have hb2:(r==94)=false:=by rw[beq_eq_false_iff_ne];omega
       clear h3;go_enter Tryz.func219,Tryz.ntmps219;go_wp2_with fail;go_ret;exact⟨zA0 (by rw[HE.out];first | rfl | (simp;done) | (simp;omega)),rfl⟩
theorem zHf (n b0 b1 b2 b3:Nat) (h:128≤b0):126<(Lib.decodeN n b0 b1 b2 b3).1:=by
 unfold Lib.decodeN
 repeat' split
 all_goals (first | omega | (simp_all;omega) | (simp_all))
theorem zJW (c:UInt8):zEy c.toNat=!xY c:=by
 unfold zEy xY;by_cases h1:c.toNat<32
 · rw[decide_eq_true h1,decide_eq_false (show ¬32≤c.toNat by omega)];rfl
 · by_cases h2:126<c.toNat
   · rw[decide_eq_true h2,decide_eq_false (show ¬c.toNat≤126 by omega)];simp
   · by_cases h3:c.toNat=94
     · rw[decide_eq_true h3,decide_eq_false (show ¬c.toNat≠94 from fun h=>h h3)];simp
     · rw[decide_eq_false h1,decide_eq_false h2,decide_eq_false h3,decide_eq_true (show 32≤c.toNat by omega),decide_eq_true (show c.toNat≤126 by omega),decide_eq_true (show c.toNat≠94 from h3)];rfl
theorem zGW (s:ByteArray):∀(f pos:Nat),s.size-pos≤f→decide (0≤Lib.idxFuncFrom zEy true s f pos)=!((s.data.toList.drop pos).all xY)
 | 0,pos,h=>by
   rw[List.drop_of_length_le (by
    have:s.data.toList.length=s.size:=Array.length_toList
    omega)]
   rfl
 | f+1,pos,h=>by
   unfold Lib.idxFuncFrom;by_cases hp:pos<s.size
   · rw[if_pos hp];have hd:=yK s pos hp;rw[hd,List.all_cons]
     have hg:(s.data.toList.getD pos 0).toNat=s[pos].toNat:=by
      have hl:pos<s.data.toList.length:=by rw[Array.length_toList];exact hp
      rw[List.getD_eq_getElem?_getD,List.getElem?_eq_getElem hl];rfl
     by_cases ha:s[pos].toNat<128
     · have hdec:Utf8.decode s pos=(s[pos].toNat,1):=by rw[Lib.decode_N,hg,Lib.decodeN_ascii _ _ _ _ _ ha]
       rw[hdec];simp only[];rw[zJW];cases hc:xY s[pos]
       · simp
       · simp only[Bool.not_true,Bool.false_eq_true,if_false];rw[zGW s f (pos+1) (by omega)];simp
     · have hdec:126<(Utf8.decode s pos).1:=by rw[Lib.decode_N,hg];exact zHf _ _ _ _ _ (by omega)
       have hb:zEy (Utf8.decode s pos).1=true:=by unfold zEy;rw[decide_eq_true hdec];simp
       have hc:xY s[pos]=false:=by unfold xY;rw[decide_eq_false (show ¬s[pos].toNat≤126 by omega)];simp
       rw[hb,if_pos rfl,hc];simp
   · rw[if_neg hp,List.drop_of_length_le (by
      have:s.data.toList.length=s.size:=Array.length_toList
      omega)]
     rfl
theorem zEr (s:ByteArray) (w:World) (hs:s.size≤1048576) :
 Calls Tryz.prog 190 #[.string s] w fun e w'=>e=.returned (.bool (wI s))∧Below w.heap.size w w':=by
 have hp:PredAt Tryz.prog 219 #[] encR zEy w:=fun W x _=>(zHo x W).mono fun e w' ⟨he,hw⟩=>by subst hw;exact⟨he,0,rfl⟩
 have HK:=zh (Tryz.strings_ContainsFunc 219 #[] (enters_of Tryz.func219 (by kernel_rfl) rfl) zEy s w hp);have HR:Hid (wI s=(s.data.toList.all xY&&decide (s.size≤11))):=rfl;have HI:Hid (decide (0≤Lib.idxFunc zEy true s)=!(s.data.toList.all xY)):=zGW s s.size 0 (by omega);clear hp;rw[HI.out]at HK;generalize wI s=R at *;generalize s.data.toList.all xY=x at *;by_cases h11:s.size≤11
 · have HE:Hid (R=x):=by unfold Hid;rw[HR.out,decide_eq_true h11,Bool.and_true]
   go_enter Tryz.func190,Tryz.ntmps190;go_wp2_with fail;refine HK.out.mono ?_;rintro e w1 ⟨rfl,hb1⟩;have HB:=zh hb1;clear hb1;cases x
   all_goals
    go_wp2_with fail;go_ret;exact⟨zA0 HE.out.symm,HB.out⟩
 · have HE:Hid (R=false):=by unfold Hid;rw[HR.out,decide_eq_false h11];simp
   go_enter Tryz.func190,Tryz.ntmps190;go_wp2_with fail;go_ret;exact⟨zA0 HE.out.symm,Below.refl _ _⟩
end Go.Proofs.YtfpcjhajjejpdaaGreatDoor
namespace Go.Proofs.YtfpcjhajjejpdaaGreatDoor
open Go.RowKit
theorem zEd {α:Type} (p:α→Bool):∀(l:List α) (k:Nat),decide (0≤wL p l k)=l.any p
 | [],k=>by simp[wL]
 | d::r,k=>by
   unfold wL;rw[List.any_cons,←zEd p r (k+1)];by_cases h:p d=true
   · simp[h]
   · simp[h]
theorem zAU (n a b:Int) (w:World) :
 Calls Tryz.prog 124 #[.int .i64 n,.int .i64 a,.int .i64 b] w fun e w'=>e=.returned (.bool (inB n a b))∧w=w':=zDD n a b w
def zED (g:Nat) (lb:Array Value) (p:CondD→Bool) (fs:List CondD) (w:World):Prop :=
 ∀d∈fs,∀c0 c1 c2 W,Below w.heap.size w W→CondR W W.heap.size c0 c1 c2 d→Calls Tryz.prog g (#[.agg #[c0,c1,c2]]++lb) W fun e w'=>e=.returned (.bool (p d))∧Below W.heap.size W w'
theorem zCr (g:Nat) (lb:Array Value) (p:CondD→Bool) (A:Option Addr) (n c:Nat) (fs:List CondD) (w:World) (h:Conds w w.heap.size A n fs) (hn:n≤1048576)
 (eg:∀args w,(callFunc g args).run Tryz.prog w=.ok (.enter g args) w) (hg:zED g lb p fs w) :
 Calls Tryz.prog 166 #[.slice A n c,.func (.func g) #[] lb] w fun e w'=>e=.returned (.int .i64 (wL p fs 0))∧Below w.heap.size w w':=by
 have Hh:=zh h;have Hlen:=zh h.1;have Hg:=zh hg;clear h hg;go_enter Tryz.func166,Tryz.ntmps166;go_wp2_with fail;go_loopw [8] (fun i wr=>∃k:Nat,k≤n∧i=.int .i64 k∧Below w.heap.size w wr∧Hid (wL p fs 0=wL p (fs.drop k) k)) (fun i _=>n-(intOf i).toNat);case atStart=>exact⟨0,Nat.zero_le _,rfl,Below.refl _ _,rfl⟩
 case round =>
  obtain⟨k,hk,rfl,hb,hS⟩:=hrel;have HB:=zh hb;clear hb;by_cases hlt:k<n
  · obtain⟨b,o,rfl,hbB,hcell⟩:=(Hh.out.later HB.out).2 (by omega);obtain⟨c0,c1,c2,k0,k1,k2,hr⟩:=hcell k hlt;clear hcell;have hl:k<fs.length:=by rw[Hlen.out];exact hlt
    have HS:=zh (zAw p fs k hl);have HK:=zh (Hg.out (fs.getD k default) (wB fs k hl) c0 c1 c2 wr HB.out hr);clear hl hr;generalize fs.getD k default=s at *;generalize hx:p s=x at *;have HX:=zh hx;clear hx;go_wp2_with fail;refine HK.out.mono ?_;rintro e w' ⟨rfl,hb1⟩;have HB1:=zh (HB.out.later hb1);clear hb1;cases x
    · go_wp2_with fail;go_roundw;case rel=>exact⟨k+1,by omega,by go_num,HB1.out,by unfold Hid;rw[hS.out,HS.out];rfl⟩
      case measure=>simp[intOf];omega
    · go_wp2_with fail;go_ret;exact⟨vB (by rw[hS.out,HS.out];rfl),HB1.out⟩
  · have HE:Hid (wL p fs 0=-1):=by unfold Hid;rw[hS.out,List.drop_of_length_le (by rw[Hlen.out];omega)];rfl
    go_wp2_with fail;go_ret;exact⟨vB HE.out.symm,HB.out⟩
theorem xX (g:Nat) (lb:Array Value) (p:CondD→Bool) (A:Option Addr) (n c:Nat) (fs:List CondD) (w:World) (h:Conds w w.heap.size A n fs) (hn:n≤1048576)
 (eg:∀args w,(callFunc g args).run Tryz.prog w=.ok (.enter g args) w) (hg:zED g lb p fs w) :
 Calls Tryz.prog 110 #[.slice A n c,.func (.func g) #[] lb] w fun e w'=>e=.returned (.bool (fs.any p))∧Below w.heap.size w w':=by
 have HK:=zh (zCr g lb p A n c fs w h hn eg hg);have hE:=zEd p fs 0;clear h hg eg;generalize fs.any p=R at *;generalize wL p fs 0=x at *;have HE:=zh hE;clear hE;go_enter Tryz.func110,Tryz.ntmps110;go_wp2_with fail;refine HK.out.mono ?_;rintro e w' ⟨rfl,hb1⟩;have HB1:=zh hb1;clear hb1;go_wp2_with fail;go_ret;exact⟨zA0 HE.out,HB1.out⟩
def zEC (g:Nat) (lb:Array Value) (p:NodeD→Bool) (fs:List NodeD) (w:World):Prop :=
 ∀d∈fs,∀c0 c1 c2 W,Below w.heap.size w W→NodeR W W.heap.size c0 c1 c2 d→Calls Tryz.prog g (#[.agg #[c0,c1,c2]]++lb) W fun e w'=>e=.returned (.bool (p d))∧Below W.heap.size W w'
theorem zCq (g:Nat) (lb:Array Value) (p:NodeD→Bool) (A:Option Addr) (n c:Nat) (fs:List NodeD) (w:World) (h:Nodes w w.heap.size A n fs) (hn:n≤1048576)
 (eg:∀args w,(callFunc g args).run Tryz.prog w=.ok (.enter g args) w) (hg:zEC g lb p fs w) :
 Calls Tryz.prog 138 #[.slice A n c,.func (.func g) #[] lb] w fun e w'=>e=.returned (.int .i64 (wL p fs 0))∧Below w.heap.size w w':=by
 have Hh:=zh h;have Hlen:=zh h.1;have Hg:=zh hg;clear h hg;go_enter Tryz.func138,Tryz.ntmps138;go_wp2_with fail;go_loopw [8] (fun i wr=>∃k:Nat,k≤n∧i=.int .i64 k∧Below w.heap.size w wr∧Hid (wL p fs 0=wL p (fs.drop k) k)) (fun i _=>n-(intOf i).toNat);case atStart=>exact⟨0,Nat.zero_le _,rfl,Below.refl _ _,rfl⟩
 case round =>
  obtain⟨k,hk,rfl,hb,hS⟩:=hrel;have HB:=zh hb;clear hb;by_cases hlt:k<n
  · obtain⟨b,o,rfl,hbB,hcell⟩:=(Hh.out.later HB.out).2 (by omega);obtain⟨c0,c1,c2,k0,k1,k2,hr⟩:=hcell k hlt;clear hcell;have hl:k<fs.length:=by rw[Hlen.out];exact hlt
    have HS:=zh (zAw p fs k hl);have HK:=zh (Hg.out (fs.getD k default) (wB fs k hl) c0 c1 c2 wr HB.out hr);clear hl hr;generalize fs.getD k default=s at *;generalize hx:p s=x at *;have HX:=zh hx;clear hx;go_wp2_with fail;refine HK.out.mono ?_;rintro e w' ⟨rfl,hb1⟩;have HB1:=zh (HB.out.later hb1);clear hb1;cases x
    · go_wp2_with fail;go_roundw;case rel=>exact⟨k+1,by omega,by go_num,HB1.out,by unfold Hid;rw[hS.out,HS.out];rfl⟩
      case measure=>simp[intOf];omega
    · go_wp2_with fail;go_ret;exact⟨vB (by rw[hS.out,HS.out];rfl),HB1.out⟩
  · have HE:Hid (wL p fs 0=-1):=by unfold Hid;rw[hS.out,List.drop_of_length_le (by rw[Hlen.out];omega)];rfl
    go_wp2_with fail;go_ret;exact⟨vB HE.out.symm,HB.out⟩
theorem zFR (s:ByteArray) (w:World) (hs:s.size≤1048576) :
 Calls Tryz.prog 126 #[.string s] w fun e w'=>e=.returned (.bool (!zB0 s))∧w=w':=by
 have HK:=zh (vO s w hs);generalize zB0 s=x at *;go_enter Tryz.func126,Tryz.ntmps126;go_wp2_with fail;refine HK.out.mono ?_;rintro e w1 ⟨rfl,rfl⟩;go_wp2_with fail;go_ret;exact⟨rfl,rfl⟩
theorem zFU (s:ByteArray) (w:World) (hs:s.size≤1048576) :
 Calls Tryz.prog 160 #[.string s] w fun e w'=>e=.returned (.bool (!zB0 s))∧w=w':=by
 have HK:=zh (vO s w hs);generalize zB0 s=x at *;go_enter Tryz.func160,Tryz.ntmps160;go_wp2_with fail;refine HK.out.mono ?_;rintro e w1 ⟨rfl,rfl⟩;go_wp2_with fail;go_ret;exact⟨rfl,rfl⟩
theorem zIp (A:Option Addr) (n c:Nat) (w:World) (_hn:n≤1048576) :
 Calls Tryz.prog 68 #[.slice A n c] w fun e w'=>e=.returned (.int .i64 n)∧w=w':=by
 go_enter Tryz.func68,Tryz.ntmps68
 go_wp2
 go_ret;exact⟨rfl,rfl⟩
theorem zGV (s:ByteArray):decide (0≤Lib.indexByte s.data.toList 32)=!(s.data.toList.all fun c=>decide (c.toNat≠32)):=by
 rw[←Lib.contains_iff_indexByte,Bool.eq_iff_iff,List.contains_iff_mem];simp only[Bool.not_eq_true',List.all_eq_false,decide_eq_true_eq];constructor
 · intro h;exact⟨32,h,by decide⟩
 · rintro⟨c,hc,h⟩;have h2:c.toNat=32:=by simpa using h
   have:c=32:=by apply UInt8.toNat_inj.1;rw[h2];rfl
   rw[←this];exact hc
def zLG (c:CondD):Bool:=zB0 c.col&&(inB c.op 1 4&&(wI c.val&&(c.val.data.toList.all fun x=>decide (x.toNat≠32))))
theorem zKK (c:CondD):zLG c=zF0 c:=by
 unfold zLG zF0 zZ0;rw[Bool.and_comm (wI c.val)]
theorem zIq (c0 c1 c2:Value) (d:CondD) (w:World) (h:CondR w w.heap.size c0 c1 c2 d) (hs:d.small) :
 Calls Tryz.prog 162 #[.agg #[c0,c1,c2]] w fun e w'=>e=.returned (.bool (zF0 d))∧Below w.heap.size w w':=by
 obtain⟨rfl,rfl,rfl⟩:=h;have HKa:=zh (fun W=>vO d.col W hs.1);have HKb:=zh (fun W=>zAU d.op 1 4 W);have HKc:=zh (fun W=>zEr d.val W hs.2);have HKd:=zh (fun W=>Tryz.strings_Contains_one d.val 32 W);rw[zGV]at HKd;have HR:Hid (zF0 d=(zB0 d.col&&(inB d.op 1 4&&(wI d.val&&(d.val.data.toList.all fun x=>decide (x.toNat≠32)))))):=(zKK d).symm;clear hs;generalize zF0 d=R at *;generalize zB0 d.col=y0 at *;generalize inB d.op 1 4=y1 at *;generalize wI d.val=y2 at *;generalize (d.val.data.toList.all fun x=>decide (x.toNat≠32))=y3 at *;generalize d.col=cc at *;generalize d.op=co at *;generalize d.val=cv at *;have HB0:=zh (fun o=>Below.new w o);go_enter Tryz.func162,Tryz.ntmps162;go_wp2_with fail;refine(HKa.out _).mono ?_;rintro e w1 ⟨rfl,rfl⟩;cases y0
 · have HE:Hid (R=false):=by unfold Hid;rw[HR.out];rfl
   go_wp2_with fail;go_ret;exact⟨zA0 HE.out.symm,HB0.out _⟩
 go_wp2_with fail;refine(HKb.out _).mono ?_;rintro e w1 ⟨rfl,rfl⟩;cases y1
 · have HE:Hid (R=false):=by unfold Hid;rw[HR.out];rfl
   go_wp2_with fail;go_ret;exact⟨zA0 HE.out.symm,HB0.out _⟩
 go_wp2_with fail;refine(HKc.out _).mono ?_;rintro e w1 ⟨rfl,hb1⟩;have p2:=zEs hb1 2;have HB1:=zh ((HB0.out _).later hb1);have hz:=hb1.size;simp at hz;clear hb1;cases y2
 · have HE:Hid (R=false):=by unfold Hid;rw[HR.out];rfl
   go_wp2_with fail;go_ret;exact⟨zA0 HE.out.symm,HB1.out⟩
 go_wp2_with fail;refine(HKd.out _).mono ?_;rintro e w2 ⟨rfl,hw⟩;subst hw;have HE:Hid (R=y3):=by unfold Hid;rw[HR.out];rfl
 go_wp2_with fail;go_ret;exact⟨zA0 (by rw[HE.out];first | done | simp),HB1.out⟩
theorem zFT (c0 c1 c2:Value) (d:CondD) (w:World) (h:CondR w w.heap.size c0 c1 c2 d) (hs:d.small) :
 Calls Tryz.prog 161 #[.agg #[c0,c1,c2]] w fun e w'=>e=.returned (.bool (!zF0 d))∧Below w.heap.size w w':=by
 have HK:=zh (fun o=>zIq c0 c1 c2 d (w.alloc o) (h.later (Below.new _ _)) hs);obtain⟨rfl,rfl,rfl⟩:=h;clear hs;generalize zF0 d=x at *;go_enter Tryz.func161,Tryz.ntmps161;go_wp2_with fail;refine(HK.out _).mono ?_;rintro e w1 ⟨rfl,hb1⟩;have HB:=zh ((Below.new w _).later hb1);clear hb1;go_wp2_with fail;go_ret;exact⟨rfl,HB.out⟩
end Go.Proofs.YtfpcjhajjejpdaaGreatDoor
