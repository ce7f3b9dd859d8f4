import Derived.Test.YtgmaamnofhmecaaGreatDoorY06
import Derived.Test.YtgmaamnofhmecaaGreatDoorY02
import Derived.Lib.AppendIntMem
import Derived.Shelf.Unicode.PredsPay
set_option linter.unusedSimpArgs false
set_option maxHeartbeats 1000000
open Go.Lib renaming hid → zh
namespace Go.Proofs.YtgmaamnofhmecaaGreatDoor
open Go.RowKit
theorem zDe (n a b:Int) (w:World) :
 Calls Tryz.prog 157 #[.int .i64 n,.int .i64 a,.int .i64 b] w fun e w'=>e=.returned (.bool (decide (a≤n)&&decide (n≤b)))∧w=w':=by
 by_cases h1:a≤n
 · by_cases h2:n≤b
   all_goals
    go_enter Tryz.func157,Tryz.ntmps157
    go_wp2
    go_ret;exact⟨zA0 (by first | (simp;done) | (simp;omega) | (rw[Bool.eq_iff_iff];simp;omega)),rfl⟩
 · go_enter Tryz.func157,Tryz.ntmps157
   go_wp2
   go_ret;exact⟨zA0 (by first | (simp;done) | (simp;omega) | (rw[Bool.eq_iff_iff];simp;omega)),rfl⟩
def wN (n:Int):Bool:=decide (-999999999999999999≤n)&&decide (n≤999999999999999999)
theorem xO (n:Int) (w:World) :
 Calls Tryz.prog 300 #[.int .i64 n] w fun e w'=>e=.returned (.bool (wN n))∧w=w':=by
 go_enter Tryz.func300,Tryz.ntmps300;go_wp2_with fail;refine(zDe _ _ _ _).mono ?_;rintro e w' ⟨rfl,rfl⟩;go_wp2_with fail;go_ret;exact⟨zA0 rfl,rfl⟩
def uG (w : World) : Prop := Lib.TabIs Tryz.prog w "internal/strconv.uint64pow10" .u64 Lib.pow10Tab
theorem wA {w w':World} (h:uG w) (hb:Below w.heap.size w w'):uG w':=TabIs_below (g:=3) (by kernel_rfl) h hb
theorem yQ (n:Nat):Lib.itoa (n:Int)=Lib.decDigits n:=by
 unfold Lib.itoa;rw[if_neg (by omega)];rfl
theorem xW (n:Nat) (h:n≤999999999999999999):(Lib.decDigits n).length≤20:=by
 by_cases h0:n=0
 · subst h0;rw[Lib.decDigits_one (by omega)];simp
 · have h1:=xQ 20 n (by
    have:(10:Nat) ^ 20=100000000000000000000:=by decide
    omega)
   unfold wH at h1;rw[if_neg h0]at h1;exact h1
theorem zCY (n:Nat):1≤(Lib.decDigits n).length:=by
 rw[Lib.decDigits];split <;> simp
theorem zAE (n:Nat) (h:0<n):wH n=Lib.decDigits n:=by unfold wH;rw[if_neg (by omega)]
theorem zEL:wH 0=[]:=rfl
theorem zAP {n:Nat} (l:List UInt8) (h:l.length≤n):(Lib.trimRightB l 48).length≤n:=by
 have:=zEr l;unfold zJ0 at this;rw[Lib.trimRightS_one]at this;omega
theorem zAV (Y:ByteArray) (r:Nat) (h:Y=⟨(Lib.decDigits (1000000+r)).toArray⟩):Lib.trimRightB (Y.extract 1 Y.size).data.toList 48=zJ0 ((wH (1000000+r)).drop 1):=by
 rw[zGC,zAE _ (by omega)];unfold zJ0;rw[Lib.trimRightS_one,h]
set_option maxRecDepth 100000 in
theorem zHV (m:Nat) (w:World) (htab:uG w) (h1:0<m) (h2:m≤999999999999999999) (hq:m<1000000) (hr:0<m % 1000000) :
 Calls Tryz.prog 278 #[.int .i64 (m:Int)] w fun e w'=>e=.returned (.string ⟨(vB m).toArray⟩)∧Below w.heap.size w w':=by
 have hn:wN (m:Int)=true:=by simp[wN];omega
 have HK:=zh (fun W=>xO (m:Int) W);rw[hn]at HK;clear hn;have HT:=zh htab;clear htab;obtain⟨q,hqd⟩:∃q:Nat,q=m / 1000000:=⟨_,rfl⟩;obtain⟨r,hrd⟩:∃r:Nat,r=m % 1000000:=⟨_,rfl⟩;have e1:(m:Int) / 1000000=q:=by omega
 have e2:(m:Int) % 1000000=r:=by omega
 have HQ:=zh hqd;have HRD:=zh hrd;have hr9:r<1000000:=by omega
 have hm9:(m:Int)≤999999999999999999:=by omega
 have hm0:(0:Int)<m:=by omega
 have hq9:(q:Int)≤999999999999:=by omega
 have hq':decide ((1000000:Int)≤(m:Int))=false:=by rw[decide_eq_false_iff_not];omega
 have hr':(0:Int)<r:=by omega
 have HQ0:Hid (m / 1000000=0):=by unfold Hid;omega
 have hrp:0<r:=by omega
 have HR0:Hid (m % 1000000=r):=hrd.symm;have HM0:Hid (m≠0):=by unfold Hid;omega
 clear hqd hrd h2 h1 hq hr;go_enter Tryz.func278,Tryz.ntmps278;go_wp2_with fail;refine(HK.out _).mono ?_;rintro e w' ⟨rfl,rfl⟩;go_wp2_with fail;have HT1:=zh HT.out;have HB1:=zh (Below.refl w.heap.size w);have hF2:=Tryz.strconv_FormatInt_10 (1000000+(r:Int)) (by omega) (by omega) w HT1.out;refine hF2.mono ?_;rintro e w2 ⟨rfl,k2,os2,hw2⟩;have hB2:Below w.heap.size w w2:=by rw[hw2];exact Lib.below_grow _ _ (Nat.le_refl _) _ _
 have HB2:=zh (HB1.out.later hB2);clear hB2 hw2 hF2;rw[show(1000000+(r:Int))=((1000000+r:Nat):Int) from by omega,yQ];obtain⟨Y,hY⟩:∃Y:ByteArray,Y=⟨(Lib.decDigits (1000000+r)).toArray⟩:=⟨_,rfl⟩;rw[←hY];have hYs:Y.size≤20:=by rw[Lib.size_eq,hY];exact xW _ (by omega)
 have hY1:1≤Y.size:=by rw[Lib.size_eq,hY];exact zCY _
 have HY:=zh hY;clear hY;go_wp2_with fail;refine(Tryz.strings_TrimRight_one _ 48 (by decide) _ (by rw[ByteArray.size_extract];omega)).mono ?_;rintro e w' ⟨rfl,rfl⟩;obtain⟨Z,hZ⟩:∃Z:ByteArray,Z=⟨(Lib.trimRightB (Y.extract 1 Y.size).data.toList 48).toArray⟩:=⟨_,rfl⟩;rw[←hZ];have hZs:Z.size≤20:=by rw[Lib.size_eq,hZ];exact zAP _ (by rw[←Lib.size_eq,ByteArray.size_extract];omega)
 have HZ:Hid (Z.data.toList=zJ0 ((wH (1000000+r)).drop 1)):=by unfold Hid;rw[hZ];exact zAV Y r HY.out
 clear hZ;go_wp2_with fail;go_ret;refine⟨uI ?_,HB2.out⟩;apply ByteArray.ext;apply Array.toList_inj.1;have hA:vB m=[]++46::zJ0 ((wH (1000000+r)).drop 1):=by unfold vB zAB;rw[if_neg HM0.out,HR0.out,if_neg (by omega),HQ0.out,zEL]
 rw[hA];rw[←HZ.out];simp
set_option maxRecDepth 100000 in
theorem zHW (m:Nat) (w:World) (htab:uG w) (h1:0<m) (h2:m≤999999999999999999) (hq:1000000≤m) (hr:m % 1000000=0) :
 Calls Tryz.prog 278 #[.int .i64 (m:Int)] w fun e w'=>e=.returned (.string ⟨(vB m).toArray⟩)∧Below w.heap.size w w':=by
 have hn:wN (m:Int)=true:=by simp[wN];omega
 have HK:=zh (fun W=>xO (m:Int) W);rw[hn]at HK;clear hn;have HT:=zh htab;clear htab;obtain⟨q,hqd⟩:∃q:Nat,q=m / 1000000:=⟨_,rfl⟩;obtain⟨r,hrd⟩:∃r:Nat,r=m % 1000000:=⟨_,rfl⟩;have e1:(m:Int) / 1000000=q:=by omega
 have e2:(m:Int) % 1000000=r:=by omega
 have HQ:=zh hqd;have HRD:=zh hrd;have hr9:r<1000000:=by omega
 have hm9:(m:Int)≤999999999999999999:=by omega
 have hm0:(0:Int)<m:=by omega
 have hq9:(q:Int)≤999999999999:=by omega
 have hq':(1000000:Int)≤m:=by omega
 have hr':¬(0:Int)<r:=by omega
 have hqp:0<q:=by omega
 have HR0:Hid (m % 1000000=r):=hrd.symm;have HM0:Hid (m≠0):=by unfold Hid;omega
 clear hqd hrd h2 h1 hq hr;go_enter Tryz.func278,Tryz.ntmps278;go_wp2_with fail;refine(HK.out _).mono ?_;rintro e w' ⟨rfl,rfl⟩;go_wp2_with fail;have hF1:=Tryz.strconv_FormatInt_10 (q:Int) (by omega) (by omega) w HT.out;refine hF1.mono ?_;rintro e w1 ⟨rfl,k1,os1,hw1⟩;have hB1:Below w.heap.size w w1:=by rw[hw1];exact Lib.below_grow _ _ (Nat.le_refl _) _ _
 have HT1:=zh (wA HT.out hB1);have HB1:=zh hB1;clear hB1 hw1 HT hF1;rw[yQ];obtain⟨X,hX⟩:∃X:ByteArray,X=⟨(Lib.decDigits q).toArray⟩:=⟨_,rfl⟩;rw[←hX];have hXs:X.size≤20:=by rw[Lib.size_eq,hX];exact xW q (by omega)
 have HX:=zh hX;clear hX;go_wp2_with fail;go_ret;refine⟨uI ?_,HB1.out⟩;apply ByteArray.ext;apply Array.toList_inj.1;have hA:vB m=Lib.decDigits q++[]:=by unfold vB zAB;rw[if_neg HM0.out,HR0.out,if_pos (by omega),←HQ.out,zAE q (by omega)]
 rw[hA];have hX:=HX.out;subst hX;simp
set_option maxRecDepth 100000 in
theorem zGU (m:Nat) (w:World) (htab:uG w) (h1:0<m) (h2:m≤999999999999999999) (hq:1000000≤m) (hr:0<m % 1000000) :
 Calls Tryz.prog 278 #[.int .i64 (m:Int)] w fun e w'=>e=.returned (.string ⟨(vB m).toArray⟩)∧Below w.heap.size w w':=by
 have hn:wN (m:Int)=true:=by simp[wN];omega
 have HK:=zh (fun W=>xO (m:Int) W);rw[hn]at HK;clear hn;have HT:=zh htab;clear htab;obtain⟨q,hqd⟩:∃q:Nat,q=m / 1000000:=⟨_,rfl⟩;obtain⟨r,hrd⟩:∃r:Nat,r=m % 1000000:=⟨_,rfl⟩;have e1:(m:Int) / 1000000=q:=by omega
 have e2:(m:Int) % 1000000=r:=by omega
 have HQ:=zh hqd;have HRD:=zh hrd;have hr9:r<1000000:=by omega
 have hm9:(m:Int)≤999999999999999999:=by omega
 have hm0:(0:Int)<m:=by omega
 have hq9:(q:Int)≤999999999999:=by omega
 have hq':(1000000:Int)≤m:=by omega
 have hr':(0:Int)<r:=by omega
 have hqp:0<q:=by omega
 have hrp:0<r:=by omega
 have HR0:Hid (m % 1000000=r):=hrd.symm;have HM0:Hid (m≠0):=by unfold Hid;omega
 clear hqd hrd h2 h1 hq hr;go_enter Tryz.func278,Tryz.ntmps278;go_wp2_with fail;refine(HK.out _).mono ?_;rintro e w' ⟨rfl,rfl⟩;go_wp2_with fail;have hF1:=Tryz.strconv_FormatInt_10 (q:Int) (by omega) (by omega) w HT.out;refine hF1.mono ?_;rintro e w1 ⟨rfl,k1,os1,hw1⟩;have hB1:Below w.heap.size w w1:=by rw[hw1];exact Lib.below_grow _ _ (Nat.le_refl _) _ _
 have HT1:=zh (wA HT.out hB1);have HB1:=zh hB1;clear hB1 hw1 HT hF1;rw[yQ];obtain⟨X,hX⟩:∃X:ByteArray,X=⟨(Lib.decDigits q).toArray⟩:=⟨_,rfl⟩;rw[←hX];have hXs:X.size≤20:=by rw[Lib.size_eq,hX];exact xW q (by omega)
 have HX:=zh hX;clear hX;go_wp2_with fail;have hF2:=Tryz.strconv_FormatInt_10 (1000000+(r:Int)) (by omega) (by omega) w1 HT1.out;refine hF2.mono ?_;rintro e w2 ⟨rfl,k2,os2,hw2⟩;have hB2:Below w1.heap.size w1 w2:=by rw[hw2];exact Lib.below_grow _ _ (Nat.le_refl _) _ _
 have HB2:=zh (HB1.out.later hB2);clear hB2 hw2 hF2;rw[show(1000000+(r:Int))=((1000000+r:Nat):Int) from by omega,yQ];obtain⟨Y,hY⟩:∃Y:ByteArray,Y=⟨(Lib.decDigits (1000000+r)).toArray⟩:=⟨_,rfl⟩;rw[←hY];have hYs:Y.size≤20:=by rw[Lib.size_eq,hY];exact xW _ (by omega)
 have hY1:1≤Y.size:=by rw[Lib.size_eq,hY];exact zCY _
 have HY:=zh hY;clear hY;go_wp2_with fail;refine(Tryz.strings_TrimRight_one _ 48 (by decide) _ (by rw[ByteArray.size_extract];omega)).mono ?_;rintro e w' ⟨rfl,rfl⟩;obtain⟨Z,hZ⟩:∃Z:ByteArray,Z=⟨(Lib.trimRightB (Y.extract 1 Y.size).data.toList 48).toArray⟩:=⟨_,rfl⟩;rw[←hZ];have hZs:Z.size≤20:=by rw[Lib.size_eq,hZ];exact zAP _ (by rw[←Lib.size_eq,ByteArray.size_extract];omega)
 have HZ:Hid (Z.data.toList=zJ0 ((wH (1000000+r)).drop 1)):=by unfold Hid;rw[hZ];exact zAV Y r HY.out
 clear hZ;go_wp2_with fail;go_ret;refine⟨uI ?_,HB2.out⟩;apply ByteArray.ext;apply Array.toList_inj.1;have hA:vB m=Lib.decDigits q++46::zJ0 ((wH (1000000+r)).drop 1):=by unfold vB zAB;rw[if_neg HM0.out,HR0.out,if_neg (by omega),←HQ.out,zAE q (by omega)]
 rw[hA];rw[←HZ.out];have hX:=HX.out;subst hX;simp
set_option maxRecDepth 100000 in
theorem zHX (m:Nat) (w:World) (htab:uG w) (h1:0<m) (h2:m≤999999999999999999) (hq:m<1000000) (hr:0<m % 1000000) :
 Calls Tryz.prog 278 #[.int .i64 (-(m:Int))] w fun e w'=>e=.returned (.string ⟨(45::vB m).toArray⟩)∧Below w.heap.size w w':=by
 have hn:wN (-(m:Int))=true:=by simp[wN];omega
 have HK:=zh (fun W=>xO (-(m:Int)) W);rw[hn]at HK;clear hn;have HT:=zh htab;clear htab;obtain⟨q,hqd⟩:∃q:Nat,q=m / 1000000:=⟨_,rfl⟩;obtain⟨r,hrd⟩:∃r:Nat,r=m % 1000000:=⟨_,rfl⟩;have e1:(m:Int) / 1000000=q:=by omega
 have e2:(m:Int) % 1000000=r:=by omega
 have HQ:=zh hqd;have HRD:=zh hrd;have hr9:r<1000000:=by omega
 have hm9:(m:Int)≤999999999999999999:=by omega
 have hm0:(0:Int)<m:=by omega
 have hq9:(q:Int)≤999999999999:=by omega
 have hq':decide ((1000000:Int)≤(m:Int))=false:=by rw[decide_eq_false_iff_not];omega
 have hr':(0:Int)<r:=by omega
 have HQ0:Hid (m / 1000000=0):=by unfold Hid;omega
 have hrp:0<r:=by omega
 have HR0:Hid (m % 1000000=r):=hrd.symm;have HM0:Hid (m≠0):=by unfold Hid;omega
 clear hqd hrd h2 h1 hq hr;go_enter Tryz.func278,Tryz.ntmps278;go_wp2_with fail;refine(HK.out _).mono ?_;rintro e w' ⟨rfl,rfl⟩;go_wp2_with fail;have HT1:=zh HT.out;have HB1:=zh (Below.refl w.heap.size w);have hF2:=Tryz.strconv_FormatInt_10 (1000000+(r:Int)) (by omega) (by omega) w HT1.out;refine hF2.mono ?_;rintro e w2 ⟨rfl,k2,os2,hw2⟩;have hB2:Below w.heap.size w w2:=by rw[hw2];exact Lib.below_grow _ _ (Nat.le_refl _) _ _
 have HB2:=zh (HB1.out.later hB2);clear hB2 hw2 hF2;rw[show(1000000+(r:Int))=((1000000+r:Nat):Int) from by omega,yQ];obtain⟨Y,hY⟩:∃Y:ByteArray,Y=⟨(Lib.decDigits (1000000+r)).toArray⟩:=⟨_,rfl⟩;rw[←hY];have hYs:Y.size≤20:=by rw[Lib.size_eq,hY];exact xW _ (by omega)
 have hY1:1≤Y.size:=by rw[Lib.size_eq,hY];exact zCY _
 have HY:=zh hY;clear hY;go_wp2_with fail;refine(Tryz.strings_TrimRight_one _ 48 (by decide) _ (by rw[ByteArray.size_extract];omega)).mono ?_;rintro e w' ⟨rfl,rfl⟩;obtain⟨Z,hZ⟩:∃Z:ByteArray,Z=⟨(Lib.trimRightB (Y.extract 1 Y.size).data.toList 48).toArray⟩:=⟨_,rfl⟩;rw[←hZ];have hZs:Z.size≤20:=by rw[Lib.size_eq,hZ];exact zAP _ (by rw[←Lib.size_eq,ByteArray.size_extract];omega)
 have HZ:Hid (Z.data.toList=zJ0 ((wH (1000000+r)).drop 1)):=by unfold Hid;rw[hZ];exact zAV Y r HY.out
 clear hZ;go_wp2_with fail;go_ret;refine⟨uI ?_,HB2.out⟩;apply ByteArray.ext;apply Array.toList_inj.1;have hA:vB m=[]++46::zJ0 ((wH (1000000+r)).drop 1):=by unfold vB zAB;rw[if_neg HM0.out,HR0.out,if_neg (by omega),HQ0.out,zEL]
 rw[hA];rw[←HZ.out];simp
set_option maxRecDepth 100000 in
theorem zHY (m:Nat) (w:World) (htab:uG w) (h1:0<m) (h2:m≤999999999999999999) (hq:1000000≤m) (hr:m % 1000000=0) :
 Calls Tryz.prog 278 #[.int .i64 (-(m:Int))] w fun e w'=>e=.returned (.string ⟨(45::vB m).toArray⟩)∧Below w.heap.size w w':=by
 have hn:wN (-(m:Int))=true:=by simp[wN];omega
 have HK:=zh (fun W=>xO (-(m:Int)) W);rw[hn]at HK;clear hn;have HT:=zh htab;clear htab;obtain⟨q,hqd⟩:∃q:Nat,q=m / 1000000:=⟨_,rfl⟩;obtain⟨r,hrd⟩:∃r:Nat,r=m % 1000000:=⟨_,rfl⟩;have e1:(m:Int) / 1000000=q:=by omega
 have e2:(m:Int) % 1000000=r:=by omega
 have HQ:=zh hqd;have HRD:=zh hrd;have hr9:r<1000000:=by omega
 have hm9:(m:Int)≤999999999999999999:=by omega
 have hm0:(0:Int)<m:=by omega
 have hq9:(q:Int)≤999999999999:=by omega
 have hq':(1000000:Int)≤m:=by omega
 have hr':¬(0:Int)<r:=by omega
 have hqp:0<q:=by omega
 have HR0:Hid (m % 1000000=r):=hrd.symm;have HM0:Hid (m≠0):=by unfold Hid;omega
 clear hqd hrd h2 h1 hq hr;go_enter Tryz.func278,Tryz.ntmps278;go_wp2_with fail;refine(HK.out _).mono ?_;rintro e w' ⟨rfl,rfl⟩;go_wp2_with fail;have hF1:=Tryz.strconv_FormatInt_10 (q:Int) (by omega) (by omega) w HT.out;refine hF1.mono ?_;rintro e w1 ⟨rfl,k1,os1,hw1⟩;have hB1:Below w.heap.size w w1:=by rw[hw1];exact Lib.below_grow _ _ (Nat.le_refl _) _ _
 have HT1:=zh (wA HT.out hB1);have HB1:=zh hB1;clear hB1 hw1 HT hF1;rw[yQ];obtain⟨X,hX⟩:∃X:ByteArray,X=⟨(Lib.decDigits q).toArray⟩:=⟨_,rfl⟩;rw[←hX];have hXs:X.size≤20:=by rw[Lib.size_eq,hX];exact xW q (by omega)
 have HX:=zh hX;clear hX;go_wp2_with fail;go_ret;refine⟨uI ?_,HB1.out⟩;apply ByteArray.ext;apply Array.toList_inj.1;have hA:vB m=Lib.decDigits q++[]:=by unfold vB zAB;rw[if_neg HM0.out,HR0.out,if_pos (by omega),←HQ.out,zAE q (by omega)]
 rw[hA];have hX:=HX.out;subst hX;simp
set_option maxRecDepth 100000 in
theorem zGV (m:Nat) (w:World) (htab:uG w) (h1:0<m) (h2:m≤999999999999999999) (hq:1000000≤m) (hr:0<m % 1000000) :
 Calls Tryz.prog 278 #[.int .i64 (-(m:Int))] w fun e w'=>e=.returned (.string ⟨(45::vB m).toArray⟩)∧Below w.heap.size w w':=by
 have hn:wN (-(m:Int))=true:=by simp[wN];omega
 have HK:=zh (fun W=>xO (-(m:Int)) W);rw[hn]at HK;clear hn;have HT:=zh htab;clear htab;obtain⟨q,hqd⟩:∃q:Nat,q=m / 1000000:=⟨_,rfl⟩;obtain⟨r,hrd⟩:∃r:Nat,r=m % 1000000:=⟨_,rfl⟩;have e1:(m:Int) / 1000000=q:=by omega
 have e2:(m:Int) % 1000000=r:=by omega
 have HQ:=zh hqd;have HRD:=zh hrd;have hr9:r<1000000:=by omega
 have hm9:(m:Int)≤999999999999999999:=by omega
 have hm0:(0:Int)<m:=by omega
 have hq9:(q:Int)≤999999999999:=by omega
 have hq':(1000000:Int)≤m:=by omega
 have hr':(0:Int)<r:=by omega
 have hqp:0<q:=by omega
 have hrp:0<r:=by omega
 have HR0:Hid (m % 1000000=r):=hrd.symm;have HM0:Hid (m≠0):=by unfold Hid;omega
 clear hqd hrd h2 h1 hq hr;go_enter Tryz.func278,Tryz.ntmps278;go_wp2_with fail;refine(HK.out _).mono ?_;rintro e w' ⟨rfl,rfl⟩;go_wp2_with fail;have hF1:=Tryz.strconv_FormatInt_10 (q:Int) (by omega) (by omega) w HT.out;refine hF1.mono ?_;rintro e w1 ⟨rfl,k1,os1,hw1⟩;have hB1:Below w.heap.size w w1:=by rw[hw1];exact Lib.below_grow _ _ (Nat.le_refl _) _ _
 have HT1:=zh (wA HT.out hB1);have HB1:=zh hB1;clear hB1 hw1 HT hF1;rw[yQ];obtain⟨X,hX⟩:∃X:ByteArray,X=⟨(Lib.decDigits q).toArray⟩:=⟨_,rfl⟩;rw[←hX];have hXs:X.size≤20:=by rw[Lib.size_eq,hX];exact xW q (by omega)
 have HX:=zh hX;clear hX;go_wp2_with fail;have hF2:=Tryz.strconv_FormatInt_10 (1000000+(r:Int)) (by omega) (by omega) w1 HT1.out;refine hF2.mono ?_;rintro e w2 ⟨rfl,k2,os2,hw2⟩;have hB2:Below w1.heap.size w1 w2:=by rw[hw2];exact Lib.below_grow _ _ (Nat.le_refl _) _ _
 have HB2:=zh (HB1.out.later hB2);clear hB2 hw2 hF2;rw[show(1000000+(r:Int))=((1000000+r:Nat):Int) from by omega,yQ];obtain⟨Y,hY⟩:∃Y:ByteArray,Y=⟨(Lib.decDigits (1000000+r)).toArray⟩:=⟨_,rfl⟩;rw[←hY];have hYs:Y.size≤20:=by rw[Lib.size_eq,hY];exact xW _ (by omega)
 have hY1:1≤Y.size:=by rw[Lib.size_eq,hY];exact zCY _
 have HY:=zh hY;clear hY;go_wp2_with fail;refine(Tryz.strings_TrimRight_one _ 48 (by decide) _ (by rw[ByteArray.size_extract];omega)).mono ?_;rintro e w' ⟨rfl,rfl⟩;obtain⟨Z,hZ⟩:∃Z:ByteArray,Z=⟨(Lib.trimRightB (Y.extract 1 Y.size).data.toList 48).toArray⟩:=⟨_,rfl⟩;rw[←hZ];have hZs:Z.size≤20:=by rw[Lib.size_eq,hZ];exact zAP _ (by rw[←Lib.size_eq,ByteArray.size_extract];omega)
 have HZ:Hid (Z.data.toList=zJ0 ((wH (1000000+r)).drop 1)):=by unfold Hid;rw[hZ];exact zAV Y r HY.out
 clear hZ;go_wp2_with fail;go_ret;refine⟨uI ?_,HB2.out⟩;apply ByteArray.ext;apply Array.toList_inj.1;have hA:vB m=Lib.decDigits q++46::zJ0 ((wH (1000000+r)).drop 1):=by unfold vB zAB;rw[if_neg HM0.out,HR0.out,if_neg (by omega),←HQ.out,zAE q (by omega)]
 rw[hA];rw[←HZ.out];have hX:=HX.out;subst hX;simp
theorem zCH (n:Int) (w:World) (htab:uG w) (h1:-999999999999999999≤n) (h2:n≤999999999999999999) :
 Calls Tryz.prog 278 #[.int .i64 n] w fun e w'=>e=.returned (.string ⟨(wG n).toArray⟩)∧Below w.heap.size w w':=by
 rcases Int.lt_trichotomy n 0 with h | h | h
 · have hE:wG n=45::vB n.natAbs:=if_pos h;rw[hE];obtain⟨m,rfl⟩:∃m:Nat,n=-(m:Int):=⟨n.natAbs,by omega⟩;rw[Int.natAbs_neg,Int.natAbs_natCast];by_cases hq:1000000≤m <;> by_cases hr:0<m % 1000000
   · exact zGV m w htab (by omega) (by omega) hq hr
   · exact zHY m w htab (by omega) (by omega) hq (by omega)
   · exact zHX m w htab (by omega) (by omega) (by omega) hr
   · omega
 · subst h;have HK:=zh (fun W=>xO 0 W);have HE:Hid ((⟨#[48]⟩:ByteArray)=⟨(wG 0).toArray⟩):=rfl;rw[show wN 0=true from by decide]at HK;go_enter Tryz.func278,Tryz.ntmps278;go_wp2_with fail;refine(HK.out _).mono ?_;rintro e w' ⟨rfl,rfl⟩;go_wp2_with fail;go_ret;exact⟨uI HE.out,Below.refl _ _⟩
 · have hE:wG n=vB n.toNat:=if_neg (by omega);rw[hE];obtain⟨m,rfl⟩:=Int.eq_ofNat_of_zero_le (show 0≤n by omega);rw[Int.toNat_natCast];by_cases hq:1000000≤m <;> by_cases hr:0<m % 1000000
   · exact zGU m w htab (by omega) (by omega) hq hr
   · exact zHW m w htab (by omega) (by omega) hq (by omega)
   · exact zHV m w htab (by omega) (by omega) (by omega) hr
   · omega
theorem zAN (s:ByteArray) (w:World) (htab:uG w) (hs:s.size≤1048576) :
 Calls Tryz.prog 251 #[.string s] w fun e w'=>e=.returned (.bool (wB s))∧Below w.heap.size w w':=by
 have hbd:=zBz s.data.toList;have HK1:=zh (fun W=>zBc s W hs);rw[zFh]at HK1;have HK2:=zh (fun W hW=>zCH (zH0 s.data.toList) W hW hbd.1 hbd.2);have HE:Hid (wB s=decide (wG (zH0 s.data.toList)=s.data.toList)):=rfl;have HT:=zh htab;clear hbd htab;generalize zH0 s.data.toList=n at *;generalize wG n=l at *;go_enter Tryz.func251,Tryz.ntmps251;go_wp2_with fail;refine(HK1.out _).mono ?_;rintro e w1 ⟨rfl,hb1⟩;have HT1:=zh (wA HT.out hb1);have HB1:=zh hb1;clear hb1;go_wp2_with fail;refine(HK2.out _ HT1.out).mono ?_;rintro e w2 ⟨rfl,hb2⟩;have HB2:=zh (HB1.out.later hb2);clear hb2;go_wp2_with fail;go_ret;refine⟨zA0 ?_,HB2.out⟩;rw[HE.out,←yA,Bool.eq_iff_iff];simp
end Go.Proofs.YtgmaamnofhmecaaGreatDoor
