import Derived.Test.YtgmaamnofhmecaaGreatDoorY29
import Derived.Test.YtgmaamnofhmecaaGreatDoorY27
set_option linter.unusedSimpArgs false
set_option maxHeartbeats 1000000
open Go.Lib renaming hid → zh
namespace Go.Proofs.YtgmaamnofhmecaaGreatDoor
open Go.RowKit
set_option linter.unusedVariables false
def okE (d:EvD):Prop:=d.small∧okV d.val
def zIC (l:List EvD):Prop:=l.length≤1048576∧∀d∈l,okE d
def okB (d:BatD):Prop:=zIC d.evs
def zID (l:List BatD):Prop:=l.length≤1048576∧∀d∈l,okB d
theorem uC {α:Type} [Inhabited α] (fs:List α) (k:Nat) (h:k<fs.length):fs.getD k default∈fs:=by
 rw[List.getD_eq_getElem?_getD,List.getElem?_eq_getElem h];exact List.getElem_mem h
theorem zES {α:Type} [Inhabited α] (p:α→Bool) (fs:List α) (k:Nat) (h:k<fs.length):(fs.drop k).all p=(p (fs.getD k default)&&(fs.drop (k+1)).all p):=by
 rw[List.drop_eq_getElem_cons h,List.getD_eq_getElem?_getD,List.getElem?_eq_getElem h];rfl
def zEU (g:Nat) (lb:Array Value) (p:EvD→Bool) (fs:List EvD) (w:World):Prop :=
 ∀d∈fs,∀c0 c1 c2 c3 c4 W,Below w.heap.size w W→EvR W W.heap.size c0 c1 c2 c3 c4 d→Calls Tryz.prog g (#[.agg #[c0,c1,c2,c3,c4]]++lb) W fun e w'=>e=.returned (.bool (p d))∧Below W.heap.size W w'
theorem zBq (g:Nat) (lb:Array Value) (p:EvD→Bool) (A:Option Addr) (n c:Nat) (fs:List EvD) (w:World) (h:Evs w w.heap.size A n fs) (hn:n≤1048576)
 (eg:∀args w,(callFunc g args).run Tryz.prog w=.ok (.enter g args) w) (hg:zEU g lb p fs w) :
 Calls Tryz.prog 213 #[.slice A n c,.func (.func g) #[] lb] w fun e w'=>e=.returned (.int .i64 (xJ p fs 0))∧Below w.heap.size w w':=by
 have Hh:=zh h;have Hlen:=zh h.1;have Hg:=zh hg;clear h hg;go_enter Tryz.func213,Tryz.ntmps213;go_wp2_with fail;go_loopw [8] (fun i wr=>∃k:Nat,k≤n∧i=.int .i64 k∧Below w.heap.size w wr∧Hid (xJ p fs 0=xJ p (fs.drop k) k)) (fun i _=>n-(intOf i).toNat);case atStart=>exact⟨0,Nat.zero_le _,rfl,Below.refl _ _,rfl⟩
 case round =>
  obtain⟨k,hk,rfl,hb,hS⟩:=hrel;have HB:=zh hb;clear hb;by_cases hlt:k<n
  · obtain⟨b,o,rfl,hbB,hcell⟩:=(Hh.out.later HB.out).2 (by omega);obtain⟨c0,c1,c2,c3,c4,k0,k1,k2,k3,k4,hr⟩:=hcell k hlt;clear hcell;have hl:k<fs.length:=by rw[Hlen.out];exact hlt
    have HS:=zh (zY0 p fs k hl);have HK:=zh (Hg.out (fs.getD k default) (uC fs k hl) c0 c1 c2 c3 c4 wr HB.out hr);clear hl hr;generalize fs.getD k default=s at *;generalize hx:p s=x at *;have HX:=zh hx;clear hx;go_wp2_with fail;refine HK.out.mono ?_;rintro e w' ⟨rfl,hb1⟩;have HB1:=zh (HB.out.later hb1);clear hb1;cases x
    · go_wp2_with fail;go_roundw;case rel=>exact⟨k+1,by omega,by go_num,HB1.out,by unfold Hid;rw[hS.out,HS.out];rfl⟩
      case measure=>simp[intOf];omega
    · go_wp2_with fail;go_ret;exact⟨xB (by rw[hS.out,HS.out];rfl),HB1.out⟩
  · have HE:Hid (xJ p fs 0=-1):=by unfold Hid;rw[hS.out,List.drop_of_length_le (by rw[Hlen.out];omega)];rfl
    go_wp2_with fail;go_ret;exact⟨xB HE.out.symm,HB.out⟩
theorem zAl (g:Nat) (lb:Array Value) (p:EvD→Bool) (A:Option Addr) (n c:Nat) (fs:List EvD) (w:World) (h:Evs w w.heap.size A n fs) (hn:n≤1048576)
 (eg:∀args w,(callFunc g args).run Tryz.prog w=.ok (.enter g args) w) (hg:zEU g lb p fs w) :
 Calls Tryz.prog 160 #[.slice A n c,.func (.func g) #[] lb] w fun e w'=>e=.returned (.bool (fs.any p))∧Below w.heap.size w w':=by
 have HK:=zh (zBq g lb p A n c fs w h hn eg hg);have hE:=zDA p fs 0;clear h hg eg;generalize fs.any p=R at *;generalize xJ p fs 0=x at *;have HE:=zh hE;clear hE;go_enter Tryz.func160,Tryz.ntmps160;go_wp2_with fail;refine HK.out.mono ?_;rintro e w' ⟨rfl,hb1⟩;have HB1:=zh hb1;clear hb1;go_wp2_with fail;go_ret;exact⟨zA0 HE.out,HB1.out⟩
theorem zFi (c0 c1 c2 c3 c4:Value) (d:EvD) (w:World) (htab:uG w) (h:EvR w w.heap.size c0 c1 c2 c3 c4 d) (hok:okE d) :
 Calls Tryz.prog 161 #[.agg #[c0,c1,c2,c3,c4]] w fun e w'=>e=.returned (.bool (!noteB d))∧Below w.heap.size w w':=by
 have HK:=zh (fun W (hW:Below w.heap.size w W)=>zHZ c0 c1 c2 c3 c4 d W (wA htab hW) (h.later hW) hok.1 hok.2);have HB0:Hid (Below w.heap.size w (w.alloc (.cells #[c0,c1,c2,c3,c4] 55))):=Below.new _ _;clear h hok htab;generalize noteB d=x at *;go_enter Tryz.func161,Tryz.ntmps161;go_wp2_with fail;refine(HK.out _ HB0.out).mono ?_;rintro e w1 ⟨rfl,hb1⟩;have HB:=zh (HB0.out.later hb1);clear hb1;go_wp2_with fail;go_ret;exact⟨rfl,HB.out⟩
theorem zCr (A:Option Addr) (n c:Nat) (fs:List EvD) (w:World) (htab:uG w) (h:Evs w w.heap.size A n fs) (hok:zIC fs) :
 Calls Tryz.prog 93 #[.slice A n c] w fun e w'=>e=.returned (.bool (notesB fs))∧Below w.heap.size w w':=by
 have hn:n≤1048576:=by rw[←h.1];exact hok.1
 have eg:∀args w,(callFunc 161 args).run Tryz.prog w=.ok (.enter 161 args) w:=enters_of Tryz.func161 (by kernel_rfl) rfl;have HK:=zh (zAl 161 #[] (fun d=>!noteB d) A n c fs w h hn eg (fun d hd c0 c1 c2 c3 c4 W hW hr=>zFi c0 c1 c2 c3 c4 d W (wA htab hW) hr (hok.2 d hd)));have HR:Hid (notesB fs=(decide (n≤60)&&!(fs.any fun d=>!noteB d))):=by unfold Hid notesB;rw[zCD,h.1]
 clear h hok eg htab;generalize notesB fs=R at *;generalize (fs.any fun d=>!noteB d)=x at *;go_enter Tryz.func93,Tryz.ntmps93;by_cases h4:n≤60
 · have hd:decide (n≤60)=true:=decide_eq_true h4;rw[hd,Bool.true_and]at HR;go_wp2_with fail;refine HK.out.mono ?_;rintro e w1 ⟨rfl,hb1⟩;have HB:=zh hb1;clear hb1;go_wp2_with fail;go_ret;exact⟨zA0 HR.out.symm,HB.out⟩
 · have hd:decide (n≤60)=false:=decide_eq_false h4;rw[hd,Bool.false_and]at HR;go_wp2_with fail;go_ret;exact⟨zA0 HR.out.symm,Below.refl _ _⟩
theorem zFl (A:Option Addr) (n c:Nat) (fs:List EvD) (w:World) (h:Evs w w.heap.size A n fs) (hok:zIC fs) :
 Calls Tryz.prog 92 #[.slice A n c] w fun e w'=>e=.returned (.bool (notesB fs))∧Below w.heap.size w w':=by
 have hn:n≤1048576:=by rw[←h.1];exact hok.1
 have HR:Hid (notesB fs=(decide (n≤60)&&fs.all noteB)):=by unfold Hid notesB;rw[h.1]
 have Hh:=zh h;have Hlen:=zh h.1;have Hok:=zh hok.2;clear h hok;generalize notesB fs=R at *;by_cases h4:n≤60
 · have hd:decide (60<n)=false:=decide_eq_false (by omega);rw[decide_eq_true h4,Bool.true_and]at HR;have h4I:¬(60:Int)<(n:Int):=by omega
   have HD:=zh h4;go_enter Tryz.func92,Tryz.ntmps92;go_wp2_with fail;go_loopw [3] (fun i wr=>∃k:Nat,k≤n∧i=.int .i64 k∧Below w.heap.size w wr∧Hid (R=(fs.drop k).all noteB)) (fun i _=>n-(intOf i).toNat);case atStart=>exact⟨0,Nat.zero_le _,rfl,Below.refl _ _,HR⟩
   case round =>
    obtain⟨k,hk,rfl,hb,hS⟩:=hrel;have HB:=zh hb;clear hb;by_cases hlt:k<n
    · obtain⟨b,o,rfl,hbB,hcell⟩:=(Hh.out.later HB.out).2 (by omega);obtain⟨c0,c1,c2,c3,c4,k0,k1,k2,k3,k4,hr⟩:=hcell k hlt;clear hcell;have hl:k<fs.length:=by rw[Hlen.out];exact hlt
      have HS:=zh (zES noteB fs k hl);have HK:=zh (zDj c0 c1 c2 c3 c4 (fs.getD k default) wr hr (Hok.out _ (uC fs k hl)).1 (Hok.out _ (uC fs k hl)).2);clear hl hr;generalize fs.getD k default=s at *;generalize hx:noteB s=x at *;have HX:=zh hx;clear hx;go_wp2_with fail;refine HK.out.mono ?_;rintro e w' ⟨rfl,hb1⟩;have HB1:=zh (HB.out.later hb1);clear hb1;cases x
      · go_wp2_with fail;go_ret;exact⟨zA0 (by rw[hS.out,HS.out];rfl),HB1.out⟩
      · go_wp2_with fail;go_roundw;case rel=>exact⟨k+1,by omega,by go_num,HB1.out,by unfold Hid;rw[hS.out,HS.out,Bool.true_and]⟩
        case measure=>simp[intOf];omega
    · have HE:Hid (R=true):=by unfold Hid;rw[hS.out,List.drop_of_length_le (by rw[Hlen.out];omega)];rfl
      go_wp2_with fail;go_ret;exact⟨zA0 HE.out.symm,HB.out⟩
 · have hd:decide (60<n)=true:=decide_eq_true (by omega);have h4I:(60:Int)<(n:Int):=by omega
   rw[decide_eq_false h4,Bool.false_and]at HR;go_enter Tryz.func92,Tryz.ntmps92;go_wp2_with fail;go_ret;exact⟨zA0 HR.out.symm,Below.refl _ _⟩
theorem zHd (c0 c1:Value) (d:BatD) (w:World) (htab:uG w) (h:BatR w w.heap.size c0 c1 d) (hok:zIC d.evs) :
 Calls Tryz.prog 152 #[.agg #[c0,c1]] w fun e w'=>e=.returned (.bool (batB d))∧Below w.heap.size w w':=by
 obtain⟨rfl,S,m,q,rfl,hs,hmq⟩:=h;have HK1:=zh (fun W=>zIL d.job W);have HK2:=zh (fun W (hW:Below w.heap.size w W)=>zCr S m q d.evs W (wA htab hW) (hs.later hW) hok);have HR:Hid (batB d=(inB d.job 1 4&&notesB d.evs)):=by unfold Hid batB inB;rw[Bool.decide_and]
 clear hs hok htab;generalize batB d=R at *;generalize notesB d.evs=x at *;generalize hj:inB d.job 1 4=y at *;generalize d.job=jb at *;have HB0:Hid (Below w.heap.size w (w.alloc (.cells #[.int .i64 jb,.slice S m q] 53))):=Below.new _ _;clear hj;go_enter Tryz.func152,Tryz.ntmps152;cases y
 · go_wp2_with fail;refine(HK1.out _).mono ?_;rintro e w1 ⟨rfl,rfl⟩;go_wp2_with fail;go_ret;exact⟨zA0 (by rw[HR.out];rfl),HB0.out⟩
 · rw[Bool.true_and]at HR;go_wp2_with fail;refine(HK1.out _).mono ?_;rintro e w1 ⟨rfl,rfl⟩;go_wp2_with fail;refine(HK2.out _ HB0.out).mono ?_;rintro e w2 ⟨rfl,hb2⟩;have HB:=zh (HB0.out.later hb2);clear hb2;go_wp2_with fail;go_ret;exact⟨zA0 HR.out.symm,HB.out⟩
theorem zCM (c0 c1:Value) (d:BatD) (w:World) (h:BatR w w.heap.size c0 c1 d) (hok:zIC d.evs) :
 Calls Tryz.prog 149 #[.agg #[c0,c1]] w fun e w'=>e=.returned (.bool (batB d))∧Below w.heap.size w w':=by
 obtain⟨rfl,S,m,q,rfl,hs,hmq⟩:=h;have HK1:=zh (fun W=>zHw d.job W);have HK2:=zh (fun W (hW:Below w.heap.size w W)=>zFl S m q d.evs W (hs.later hW) hok);have HR:Hid (batB d=(inB d.job 1 4&&notesB d.evs)):=by unfold Hid batB inB;rw[Bool.decide_and]
 clear hs hok;generalize batB d=R at *;generalize notesB d.evs=x at *;generalize hj:inB d.job 1 4=y at *;generalize d.job=jb at *;have HB0:Hid (Below w.heap.size w (w.alloc (.cells #[.int .i64 jb,.slice S m q] 53))):=Below.new _ _;clear hj;go_enter Tryz.func149,Tryz.ntmps149;cases y
 · go_wp2_with fail;refine(HK1.out _).mono ?_;rintro e w1 ⟨rfl,rfl⟩;go_wp2_with fail;go_ret;exact⟨zA0 (by rw[HR.out];rfl),HB0.out⟩
 · rw[Bool.true_and]at HR;go_wp2_with fail;refine(HK1.out _).mono ?_;rintro e w1 ⟨rfl,rfl⟩;go_wp2_with fail;refine(HK2.out _ HB0.out).mono ?_;rintro e w2 ⟨rfl,hb2⟩;have HB:=zh (HB0.out.later hb2);clear hb2;go_wp2_with fail;go_ret;exact⟨zA0 HR.out.symm,HB.out⟩
def zEV (g:Nat) (lb:Array Value) (p:BatD→Bool) (fs:List BatD) (w:World):Prop :=
 ∀d∈fs,∀c0 c1 W,Below w.heap.size w W→BatR W W.heap.size c0 c1 d→Calls Tryz.prog g (#[.agg #[c0,c1]]++lb) W fun e w'=>e=.returned (.bool (p d))∧Below W.heap.size W w'
theorem zBr (g:Nat) (lb:Array Value) (p:BatD→Bool) (A:Option Addr) (n c:Nat) (fs:List BatD) (w:World) (h:Bats w w.heap.size A n fs) (hn:n≤1048576)
 (eg:∀args w,(callFunc g args).run Tryz.prog w=.ok (.enter g args) w) (hg:zEV g lb p fs w) :
 Calls Tryz.prog 211 #[.slice A n c,.func (.func g) #[] lb] w fun e w'=>e=.returned (.int .i64 (xJ p fs 0))∧Below w.heap.size w w':=by
 have Hh:=zh h;have Hlen:=zh h.1;have Hg:=zh hg;clear h hg;go_enter Tryz.func211,Tryz.ntmps211;go_wp2_with fail;go_loopw [8] (fun i wr=>∃k:Nat,k≤n∧i=.int .i64 k∧Below w.heap.size w wr∧Hid (xJ p fs 0=xJ p (fs.drop k) k)) (fun i _=>n-(intOf i).toNat);case atStart=>exact⟨0,Nat.zero_le _,rfl,Below.refl _ _,rfl⟩
 case round =>
  obtain⟨k,hk,rfl,hb,hS⟩:=hrel;have HB:=zh hb;clear hb;by_cases hlt:k<n
  · obtain⟨b,o,rfl,hbB,hcell⟩:=(Hh.out.later HB.out).2 (by omega);obtain⟨c0,c1,k0,k1,hr⟩:=hcell k hlt;clear hcell;have hl:k<fs.length:=by rw[Hlen.out];exact hlt
    have HS:=zh (zY0 p fs k hl);have HK:=zh (Hg.out (fs.getD k default) (uC fs k hl) c0 c1 wr HB.out hr);clear hl hr;generalize fs.getD k default=s at *;generalize hx:p s=x at *;have HX:=zh hx;clear hx;go_wp2_with fail;refine HK.out.mono ?_;rintro e w' ⟨rfl,hb1⟩;have HB1:=zh (HB.out.later hb1);clear hb1;cases x
    · go_wp2_with fail;go_roundw;case rel=>exact⟨k+1,by omega,by go_num,HB1.out,by unfold Hid;rw[hS.out,HS.out];rfl⟩
      case measure=>simp[intOf];omega
    · go_wp2_with fail;go_ret;exact⟨xB (by rw[hS.out,HS.out];rfl),HB1.out⟩
  · have HE:Hid (xJ p fs 0=-1):=by unfold Hid;rw[hS.out,List.drop_of_length_le (by rw[Hlen.out];omega)];rfl
    go_wp2_with fail;go_ret;exact⟨xB HE.out.symm,HB.out⟩
theorem zAm (g:Nat) (lb:Array Value) (p:BatD→Bool) (A:Option Addr) (n c:Nat) (fs:List BatD) (w:World) (h:Bats w w.heap.size A n fs) (hn:n≤1048576)
 (eg:∀args w,(callFunc g args).run Tryz.prog w=.ok (.enter g args) w) (hg:zEV g lb p fs w) :
 Calls Tryz.prog 150 #[.slice A n c,.func (.func g) #[] lb] w fun e w'=>e=.returned (.bool (fs.any p))∧Below w.heap.size w w':=by
 have HK:=zh (zBr g lb p A n c fs w h hn eg hg);have hE:=zDA p fs 0;clear h hg eg;generalize fs.any p=R at *;generalize xJ p fs 0=x at *;have HE:=zh hE;clear hE;go_enter Tryz.func150,Tryz.ntmps150;go_wp2_with fail;refine HK.out.mono ?_;rintro e w' ⟨rfl,hb1⟩;have HB1:=zh hb1;clear hb1;go_wp2_with fail;go_ret;exact⟨zA0 HE.out,HB1.out⟩
theorem zDR (c0 c1:Value) (d:BatD) (w:World) (htab:uG w) (h:BatR w w.heap.size c0 c1 d) (hok:okB d) :
 Calls Tryz.prog 151 #[.agg #[c0,c1]] w fun e w'=>e=.returned (.bool (!batB d))∧Below w.heap.size w w':=by
 have HK:=zh (fun W (hW:Below w.heap.size w W)=>zHd c0 c1 d W (wA htab hW) (h.later hW) hok);have HB0:Hid (Below w.heap.size w (w.alloc (.cells #[c0,c1] 53))):=Below.new _ _;clear h hok htab;generalize batB d=x at *;go_enter Tryz.func151,Tryz.ntmps151;go_wp2_with fail;refine(HK.out _ HB0.out).mono ?_;rintro e w1 ⟨rfl,hb1⟩;have HB:=zh (HB0.out.later hb1);clear hb1;go_wp2_with fail;go_ret;exact⟨rfl,HB.out⟩
theorem zEn (A:Option Addr) (n c:Nat) (fs:List BatD) (w:World) (htab:uG w) (h:Bats w w.heap.size A n fs) (hok:zID fs) :
 Calls Tryz.prog 78 #[.slice A n c] w fun e w'=>e=.returned (.bool (batsB fs))∧Below w.heap.size w w':=by
 have hn:n≤1048576:=by rw[←h.1];exact hok.1
 have eg:∀args w,(callFunc 151 args).run Tryz.prog w=.ok (.enter 151 args) w:=enters_of Tryz.func151 (by kernel_rfl) rfl;have HK:=zh (zAm 151 #[] (fun d=>!batB d) A n c fs w h hn eg (fun d hd c0 c1 W hW hr=>zDR c0 c1 d W (wA htab hW) hr (hok.2 d hd)));have HR:Hid (batsB fs=(decide (n≤400)&&!(fs.any fun d=>!batB d))):=by unfold Hid batsB;rw[zCD,h.1]
 clear h hok eg htab;generalize batsB fs=R at *;generalize (fs.any fun d=>!batB d)=x at *;go_enter Tryz.func78,Tryz.ntmps78;by_cases h4:n≤400
 · have hd:decide (n≤400)=true:=decide_eq_true h4;rw[hd,Bool.true_and]at HR;go_wp2_with fail;refine HK.out.mono ?_;rintro e w1 ⟨rfl,hb1⟩;have HB:=zh hb1;clear hb1;go_wp2_with fail;go_ret;exact⟨zA0 HR.out.symm,HB.out⟩
 · have hd:decide (n≤400)=false:=decide_eq_false h4;rw[hd,Bool.false_and]at HR;go_wp2_with fail;go_ret;exact⟨zA0 HR.out.symm,Below.refl _ _⟩
theorem zIH (A:Option Addr) (n c:Nat) (fs:List BatD) (w:World) (h:Bats w w.heap.size A n fs) (hok:zID fs) :
 Calls Tryz.prog 76 #[.slice A n c] w fun e w'=>e=.returned (.bool (batsB fs))∧Below w.heap.size w w':=by
 have hn:n≤1048576:=by rw[←h.1];exact hok.1
 have HR:Hid (batsB fs=(decide (n≤400)&&fs.all batB)):=by unfold Hid batsB;rw[h.1]
 have Hh:=zh h;have Hlen:=zh h.1;have Hok:=zh hok.2;clear h hok;generalize batsB fs=R at *;by_cases h4:n≤400
 · have hd:decide (400<n)=false:=decide_eq_false (by omega);rw[decide_eq_true h4,Bool.true_and]at HR;have h4I:¬(400:Int)<(n:Int):=by omega
   have HD:=zh h4;go_enter Tryz.func76,Tryz.ntmps76;go_wp2_with fail;go_loopw [3] (fun i wr=>∃k:Nat,k≤n∧i=.int .i64 k∧Below w.heap.size w wr∧Hid (R=(fs.drop k).all batB)) (fun i _=>n-(intOf i).toNat);case atStart=>exact⟨0,Nat.zero_le _,rfl,Below.refl _ _,HR⟩
   case round =>
    obtain⟨k,hk,rfl,hb,hS⟩:=hrel;have HB:=zh hb;clear hb;by_cases hlt:k<n
    · obtain⟨b,o,rfl,hbB,hcell⟩:=(Hh.out.later HB.out).2 (by omega);obtain⟨c0,c1,k0,k1,hr⟩:=hcell k hlt;clear hcell;have hl:k<fs.length:=by rw[Hlen.out];exact hlt
      have HS:=zh (zES batB fs k hl);have HK:=zh (zCM c0 c1 (fs.getD k default) wr hr (Hok.out _ (uC fs k hl)));clear hl hr;generalize fs.getD k default=s at *;generalize hx:batB s=x at *;have HX:=zh hx;clear hx;go_wp2_with fail;refine HK.out.mono ?_;rintro e w' ⟨rfl,hb1⟩;have HB1:=zh (HB.out.later hb1);clear hb1;cases x
      · go_wp2_with fail;go_ret;exact⟨zA0 (by rw[hS.out,HS.out];rfl),HB1.out⟩
      · go_wp2_with fail;go_roundw;case rel=>exact⟨k+1,by omega,by go_num,HB1.out,by unfold Hid;rw[hS.out,HS.out,Bool.true_and]⟩
        case measure=>simp[intOf];omega
    · have HE:Hid (R=true):=by unfold Hid;rw[hS.out,List.drop_of_length_le (by rw[Hlen.out];omega)];rfl
      go_wp2_with fail;go_ret;exact⟨zA0 HE.out.symm,HB.out⟩
 · have hd:decide (400<n)=true:=decide_eq_true (by omega);have h4I:(400:Int)<(n:Int):=by omega
   rw[decide_eq_false h4,Bool.false_and]at HR;go_enter Tryz.func76,Tryz.ntmps76;go_wp2_with fail;go_ret;exact⟨zA0 HR.out.symm,Below.refl _ _⟩
end Go.Proofs.YtgmaamnofhmecaaGreatDoor
