import Derived.Test.YtfpcjhajjejpdaaGreatDoorZ02
import Derived.Deep.RegionWith
import Derived.IntWalk
import Derived.Lib.ItoaNum
import Derived.Lib.SlTrimSet
set_option maxHeartbeats 2000000
namespace Go.Proofs.YtfpcjhajjejpdaaGreatDoor
open Go.RowKit
def uJ (n:Nat):List UInt8:=if n=0 then [] else Lib.decDigits n
theorem zBt (n:Nat) (h:n≠0):uJ n=uJ (n / 10)++[UInt8.ofNat (48+n % 10)]:=by
 unfold uJ;rw[if_neg h];by_cases h10:n<10
 · rw[Lib.decDigits_one h10,if_pos (by omega)];simp[Nat.mod_eq_of_lt h10]
 · rw[Lib.decDigits,dif_neg h10,if_neg (by omega)]
theorem zX0:∀(f n:Nat),n<10 ^ f→(uJ n).length≤f
 | 0,n,h=>by
   obtain rfl:n=0:=by simpa using h
   simp[uJ]
 | f+1,n,h=>by
   by_cases h0:n=0
   · subst h0;simp[uJ]
   · rw[zBt n h0,List.length_append];have:=zX0 f (n / 10) (by rw[Nat.pow_succ]at h;omega);simp;omega
theorem zJN {P:Program} (src dst e:TypeId) (hs:P.underlying src=some (.slice e)) (he:P.underlying e=some (.int .u8)) (hd:P.underlying dst=some .string) (W:World) (b n:Nat) (hn:n<256)
 (hc:W.cell? ⟨b,0,none⟩=some (.int .u8 (n:Int))):(convert src dst (.slice (some ⟨b,0,none⟩) 1 1)).run P W=.ok (.string ⟨#[UInt8.ofNat n]⟩) W:=by
 have:=run_convert_bytes_back (P:=P) W src dst e ⟨b,0,none⟩ 1 [UInt8.ofNat n] hs he hd (fun j hj=>by
  obtain rfl:j=0:=by simpa using hj
  simp only[Addr.add,if_pos];rw[hc]
  simp[Nat.mod_eq_of_lt hn])
 simpa using this
theorem zMb (w:World) (v:Value) (t:TypeId):((w.alloc (.cells #[v] t)).drew).cell? ⟨w.heap.size,0,none⟩=some v:=by
 have h:=cell_of_row (w.alloc (.cells #[v] t)) w.heap.size 0 #[v] t (0,0) (heap_alloc_new w _);exact h
theorem zLX:(10:Nat) ^ 18=1000000000000000000:=by decide +kernel
theorem uK {a b:ByteArray} (h:a=b):Ending.returned (.string a)=.returned (.string b):=by rw[h]
theorem zAH:∀(f n:Nat) (w:World),n<10 ^ f→f≤18 →
 Calls Tryz.prog 214 #[.int .i64 n] w fun e w'=>e=.returned (.string ⟨(uJ n).toArray⟩)∧Below w.heap.size w w'
 | 0,n,w,h,_=>by
   obtain rfl:n=0:=by simpa using h
   have HE:Hid ((⟨#[]⟩:ByteArray)=⟨(uJ 0).toArray⟩):=rfl;go_enter Tryz.func214,Tryz.ntmps214;go_wp2_with fail;go_ret;exact⟨uK HE.out,Below.refl _ _⟩
 | f+1,n,w,h,hf=>by
   by_cases h0:n=0
   · subst h0;have HE:Hid ((⟨#[]⟩:ByteArray)=⟨(uJ 0).toArray⟩):=rfl;go_enter Tryz.func214,Tryz.ntmps214;go_wp2_with fail;go_ret;exact⟨uK HE.out,Below.refl _ _⟩
   · have hlt:n / 10<10 ^ f:=by rw[Nat.pow_succ]at h;omega
     have HIH:=Lib.hid (fun W=>zAH f (n / 10) W hlt (by omega));have hb18:n<10 ^ 18:=Nat.lt_of_lt_of_le h (Nat.pow_le_pow_right (by omega) (by omega));have hb:((n:Int)==0)=false:=by rw[beq_eq_false_iff_ne];omega
     have hl:=zX0 f (n / 10) hlt;have HE:Hid ((⟨(uJ (n / 10)).toArray⟩:ByteArray)++⟨#[UInt8.ofNat (48+n % 10)]⟩=⟨(uJ n).toArray⟩):=by unfold Hid;rw[zBt n h0];apply ByteArray.ext;simp
     have hcv:=fun W b hc=>zJN (P:=Tryz.prog) 22 9 5 Tryz.underlying22 Tryz.underlying5 Tryz.underlying9 W b (48+n % 10) (by omega) hc;rw[show((48+n % 10:Nat):Int)=48+(n:Int) % 10 from by omega]at hcv;rw[zLX]at hb18;have hn18:=hb18;clear h hlt hb18 h0;have hc10:((n / 10:Nat):Int)=(n:Int) / 10:=by omega
     rw[hc10]at HIH;clear hc10;generalize uJ (n / 10)=l at *;generalize UInt8.ofNat (48+n % 10)=dg at *;go_enter Tryz.func214,Tryz.ntmps214;go_wp2_with fail;have hw1:IntKind.i64.wrap ((n:Int) / 10)=(n:Int) / 10:=IntWalk.i64_in _ (by omega);have hw2:((n:Int)).tmod 10=(n:Int) % 10:=Int.tmod_eq_emod_of_nonneg (by omega);have hw3:IntKind.i64.wrap (48+(n:Int) % 10)=48+(n:Int) % 10:=IntWalk.i64_in _ (by omega);have hw4:IntKind.u8.wrap (48+(n:Int) % 10)=48+(n:Int) % 10:=by simp[IntKind.wrap,IntKind.signed,IntKind.bits];omega
     go_region_with (go_at_call 214;refine(HIH.out _).mono ?_;rintro e w1 ⟨rfl,hb1⟩;(first | (with_reducible have hk1:=cell_later hb1 (zMb w _ _)) | skip))
     all_goals
      have HB:=Lib.hid hb1;clear hb1;go_wp2_with fail;go_ret
      first
        | exact⟨uK HE.out,xC HB.out⟩
        | exact⟨uK HE.out,(xC HB.out).later (Below.new _ _)⟩
        | exact⟨uK HE.out,(Below.new _ _).later (xC HB.out)⟩
end Go.Proofs.YtfpcjhajjejpdaaGreatDoor
namespace Go.Proofs.YtfpcjhajjejpdaaGreatDoor
open Go.RowKit
def zL0 (l:List UInt8):List UInt8:=Lib.trimRightS l [48]
def zBg (rest:Nat):List UInt8:=if rest=0 then [] else 46::zL0 ((uJ (1000000+rest)).drop 1)
def vC (n:Nat):List UInt8:=if n=0 then [48] else uJ (n / 1000000)++zBg (n % 1000000)
def xM (n:Int):List UInt8:=if n<0 then 45::vC n.natAbs else vC n.toNat
theorem zHz (l:List UInt8):zL0 (l++[48])=zL0 l:=by
 unfold zL0 Lib.trimRightS;rw[List.reverse_append];simp
theorem zHA (l:List UInt8) (c:UInt8) (h:c≠48):zL0 (l++[c])=l++[c]:=by
 unfold zL0 Lib.trimRightS;rw[List.reverse_append];have:([48]:List UInt8).contains c=false:=by simpa using h
 simp[h]
theorem zBB {p:UInt8→Bool}:∀(l:List UInt8),l.dropWhile p=[]→∀c∈l,p c=true
 | [],_,c,h=>by cases h
 | x::r,h,c,hc=>by
   by_cases hx:p x=true
   · rw[List.dropWhile_cons_of_pos hx]at h;rcases List.mem_cons.1 hc with rfl | hc
     · exact hx
     · exact zBB r h c hc
   · rw[List.dropWhile_cons_of_neg hx]at h;cases h
theorem zJi (l:List UInt8) (h:zL0 l=[]):∀c∈l,c=48:=by
 intro c hc;have h1:l.reverse.dropWhile (([48]:List UInt8).contains ·)=[]:=by have:=congrArg List.reverse h;simpa [zL0,Lib.trimRightS] using this
 have:=zBB _ h1 c (by simpa using hc);simpa using this
theorem zEY (l:List UInt8):(zL0 l).length≤l.length:=by
 unfold zL0 Lib.trimRightS;rw[List.length_reverse];have:=(List.dropWhile_sublist (p:=(([48]:List UInt8).contains ·)) (l:=l.reverse)).length_le;simpa using this
theorem zLF (n:Nat) (h:n<10):dV (UInt8.ofNat (48+n))=n:=by
 unfold dV;rw[UInt8.toNat_ofNat',Nat.mod_eq_of_lt (by omega)];omega
theorem zCU (a b:List UInt8) (n:Nat):zQ0 (a++b) n=zQ0 b (zQ0 a n):=by
 unfold zQ0;rw[List.foldl_append]
theorem zBo:∀(f n:Nat),n<10 ^ f→zQ0 (uJ n) 0=n
 | 0,n,h=>by
   obtain rfl:n=0:=by simpa using h
   rfl
 | f+1,n,h=>by
   by_cases h0:n=0
   · subst h0;rfl
   · rw[zBt n h0,zCU,zBo f (n / 10) (by rw[Nat.pow_succ]at h;omega)];show 10*(n / 10)+dV (UInt8.ofNat (48+n % 10))=n;rw[zLF _ (by omega)];omega
theorem zLH:∀(l:List UInt8),(∀c∈l,c=48)→l=List.replicate l.length 48
 | [],_=>rfl
 | x::r,h=>by rw[h x List.mem_cons_self,List.length_cons,List.replicate_succ,←zLH r (fun c hc=>h c (List.mem_cons_of_mem _ hc))]
theorem zEk:∀(f n:Nat),n<10 ^ f→∀c∈uJ n,dV c≤9
 | 0,n,h,c,hc=>by
   obtain rfl:n=0:=by simpa using h
   simp[uJ]at hc
 | f+1,n,h,c,hc=>by
   by_cases h0:n=0
   · subst h0;simp[uJ]at hc
   · rw[zBt n h0]at hc;rcases List.mem_append.1 hc with h1 | h1
     · exact zEk f (n / 10) (by rw[Nat.pow_succ]at h;omega) c h1
     · rw[List.mem_singleton.1 h1,zLF _ (by omega)];omega
theorem zLN:(10:Nat) ^ 7=10000000:=by decide
theorem zLn (rest:Nat) (h0:0<rest) (h1:rest<1000000):zL0 ((uJ (1000000+rest)).drop 1)≠[]:=by
 intro h;have hall:=zJi _ h;have hlt:1000000+rest<10 ^ 7:=by rw[zLN];omega
 have hl:=zX0 7 _ hlt;have hv:=zBo 7 _ hlt;have hd:=zEk 7 _ hlt
 cases hL:uJ (1000000+rest) with
 | nil=>rw[hL]at hv;simp[zQ0]at hv;omega
 | cons d r =>
   rw[hL]at hall hv hl hd;have hr:=zLH r hall;have hd9:=hd d List.mem_cons_self;rw[show d::r=[d]++r from rfl,zCU,hr,zAB]at hv;have hv1:zQ0 [d] 0=dV d:=by simp[zQ0]
   rw[hv1]at hv;simp only[List.length_cons]at hl;have hk:r.length≤6:=by omega
   by_cases h6:r.length=6
   · rw[h6]at hv;have:(10:Nat) ^ 6=1000000:=by decide
     rw[this]at hv;omega
   · have h5:(10:Nat) ^ r.length≤10 ^ 5:=Nat.pow_le_pow_right (by omega) (by omega);have h6:(10:Nat) ^ 5=100000:=by decide
     have:dV d*10 ^ r.length≤9*100000:=Nat.le_trans (Nat.mul_le_mul_left _ h5) (by rw[h6];exact Nat.mul_le_mul_right _ hd9);omega
end Go.Proofs.YtfpcjhajjejpdaaGreatDoor
namespace Go.Proofs.YtfpcjhajjejpdaaGreatDoor
open Go.RowKit
theorem zIs (t:ByteArray) (h:0<t.size):t.data.toList=(t.extract 0 (t.size-1)).data.toList++[t[t.size-1]]:=by
 rw[Lib.extract_data];simp only[List.drop_zero,Nat.sub_zero];have hl:t.size-1<t.data.toList.length:=by rw[←Lib.size_eq];omega
 have:=List.take_succ_eq_append_getElem hl;rw[show t.size-1+1=t.data.toList.length from by rw[←Lib.size_eq];omega,List.take_length]at this;exact this
theorem zGk (t:ByteArray):(t.extract 0 (t.size-1)).size=t.size-1:=by rw[ByteArray.size_extract];omega
theorem byte48 {b:UInt8}:((b.toNat:Int)==48)=true↔b=48:=by
 rw[beq_iff_eq];constructor
 · intro h;apply UInt8.toNat_inj.1;show b.toNat=48;omega
 · rintro rfl;rfl
def zKp (v:Value):Nat:=match v with | .string t=>t.size | _=>0
theorem zIR:(10:Nat) ^ 12=1000000000000:=by decide +kernel
theorem zBl (n:Nat) (h:n≤999999999999999999):(vC n).length≤20:=by
 unfold vC;split
 · simp
 · have h1:=zX0 12 (n / 1000000) (by rw[zIR];omega);rw[List.length_append];unfold zBg;split
   · simp;omega
   · have h2:=zX0 7 (1000000+n % 1000000) (by rw[zLN];omega);have h3:=zEY ((uJ (1000000+n % 1000000)).drop 1);rw[List.length_drop]at h3;simp only[List.length_cons];omega
theorem zDi (n:Nat) (w:World) (hn:n≤999999999999999999) :
 Calls Tryz.prog 181 #[.int .i64 n] w fun e w'=>e=.returned (.string ⟨(vC n).toArray⟩)∧Below w.heap.size w w':=by
 have hW:n / 1000000<10 ^ 12:=by rw[zIR];omega
 have HK1:Hid (∀W,Calls Tryz.prog 214 #[.int .i64 ((n:Int) / 1000000)] W fun e w'=>e=.returned (.string ⟨(uJ (n / 1000000)).toArray⟩)∧Below W.heap.size W w'):=fun W=>by
  have:=zAH 12 (n / 1000000) W hW (by omega)
  rwa [show((n / 1000000:Nat):Int)=(n:Int) / 1000000 from by omega]at this
 have hl1:=zX0 12 _ hW;clear hW;by_cases hr:n % 1000000=0
 · have HE:Hid (vC n=if n=0 then [48] else uJ (n / 1000000)):=by unfold Hid vC zBg;rw[if_pos hr];simp
   have HZ:Hid (uJ (n / 1000000)=[]↔n=0):=by
    unfold Hid;constructor
    · intro h;have:=zBo 12 (n / 1000000) (by rw[zIR];omega);rw[h]at this;simp[zQ0]at this;omega
    · rintro rfl;rfl
   have hr':¬(0:Int)<(n:Int) % 1000000:=by omega
   generalize uJ (n / 1000000)=l at *;clear hr;go_enter Tryz.func181,Tryz.ntmps181;go_wp2_with fail;refine(HK1.out _).mono ?_;rintro e w1 ⟨rfl,hb1⟩;have HB1:=Lib.hid hb1;clear hb1;go_wp2_with fail
   · go_ret;have hl:l=[]:=by simpa using (show l.isEmpty=true by assumption)
     exact⟨uK (by rw[HE.out,if_pos (HZ.out.1 hl)]),HB1.out⟩
   · go_ret;have hl:l≠[]:=by simpa using (show l.isEmpty=false by assumption)
     exact⟨uK (by rw[HE.out,if_neg (fun h=>hl (HZ.out.2 h))]),HB1.out⟩
 · have hW:1000000+n % 1000000<10 ^ 7:=by rw[zLN];omega
   have HK2:Hid (∀W,Calls Tryz.prog 214 #[.int .i64 (1000000+(n:Int) % 1000000)] W fun e w'=>e=.returned (.string ⟨(uJ (1000000+n % 1000000)).toArray⟩)∧Below W.heap.size W w'):=fun W=>by
    have:=zAH 7 (1000000+n % 1000000) W hW (by omega)
    rwa [show((1000000+n % 1000000:Nat):Int)=1000000+(n:Int) % 1000000 from by omega]at this
   have hl2:=zX0 7 _ hW;have hpos:(0:Int)<(n:Int) % 1000000:=by omega
   have hne:=zLn (n % 1000000) (by omega) (by omega);have HE:Hid (vC n=uJ (n / 1000000)++46::zL0 ((uJ (1000000+n % 1000000)).drop 1)):=by unfold Hid vC zBg;rw[if_neg (by omega),if_neg hr]
   have hl3:0<(uJ (1000000+n % 1000000)).length:=by
    rcases Nat.eq_zero_or_pos (uJ (1000000+n % 1000000)).length with h | h
    · exfalso;apply hne;rw[List.eq_nil_of_length_eq_zero h];rfl
    · exact h
   have HNE:=Lib.hid hne;clear hW hr hne;generalize uJ (n / 1000000)=l at *;generalize uJ (1000000+n % 1000000)=F at *;go_enter Tryz.func181,Tryz.ntmps181;go_wp2_with fail;refine(HK1.out _).mono ?_;rintro e w1 ⟨rfl,hb1⟩;have HB1:=Lib.hid hb1;clear hb1;go_wp2_with fail;refine(HK2.out _).mono ?_;rintro e w2 ⟨rfl,hb2⟩;have HB2:=Lib.hid (HB1.out.later hb2);clear hb2;go_wp2_with fail
   go_loop [5] (fun v=>∃t:ByteArray,v=.string t∧t.size≤7∧Hid (zL0 t.data.toList=zL0 (F.drop 1))) (fun v=>zKp v)
   case atStart =>
    refine⟨_,rfl,?_,?_⟩
    · rw[ByteArray.size_extract];simp[ByteArray.size];omega
    · unfold Hid;rw[Lib.extract_data];show zL0 ((F.drop 1).take (F.length-1))=_;rw[List.take_of_length_le (by simp)]
   case round =>
    obtain⟨t,rfl,ht,hT⟩:=hrel
    have h0:0<t.size:=by
     rcases Nat.eq_zero_or_pos t.size with h | h
     · exfalso;apply HNE.out;rw[←hT.out,List.eq_nil_of_length_eq_zero (show t.data.toList.length=0 by rw[←Lib.size_eq];exact h)];rfl
     · exact h
    have HS:=Lib.hid (zIs t h0);have hem:(({ data:=l.toArray }:ByteArray)++(({ data:=#[46] }:ByteArray)++t)).toList.isEmpty=false:=by rw[yD,ByteArray.data_append,ByteArray.data_append,Array.toList_append,Array.toList_append];simp
    go_wp2_with fail
    · have hb:t[t.size-1]=48:=byte48.1 (by assumption)
      go_round
      case rel=>exact⟨_,rfl,by rw[zGk];omega,by unfold Hid;rw[←hT.out,HS.out,hb,zHz]⟩
      case measure=>simp only[zKp];have:=zGk t;show(t.extract 0 (t.size-1)).size<t.size;omega
    · have hb:t[t.size-1]≠48:=fun h=>by
       have h1:=byte48.2 h;have h2:((t[t.size-1].toNat:Int)==48)=false:=by assumption
       rw[h1]at h2;cases h2
      have HT:Hid (zL0 (F.drop 1)=t.data.toList):=by
       unfold Hid;rw[←hT.out]
       conv=>lhs;rw[HS.out]
       rw[zHA _ _ hb,←HS.out]
      clear hb;go_ret;refine⟨uK ?_,HB2.out⟩;rw[HE.out,HT.out];apply ByteArray.ext;rw[ByteArray.data_append,ByteArray.data_append];apply Array.toList_inj.1;simp
theorem zGQ (n:Int) (w:World) (h1:-999999999999999999≤n) (h2:n≤999999999999999999) :
 Calls Tryz.prog 181 #[.int .i64 n] w fun e w'=>e=.returned (.string ⟨(xM n).toArray⟩)∧Below w.heap.size w w':=by
 by_cases hneg:n<0
 · have HK:Hid (∀W,Calls Tryz.prog 181 #[.int .i64 (-n)] W fun e w'=>e=.returned (.string ⟨(vC n.natAbs).toArray⟩)∧Below W.heap.size W w'):=fun W=>by
    have:=zDi n.natAbs W (by omega)
    rwa [show(n.natAbs:Int)=-n from by omega]at this
   have HE:Hid (xM n=45::vC n.natAbs):=if_pos hneg;have hlen:=zBl n.natAbs (by omega);generalize vC n.natAbs=l at *;go_enter Tryz.func181,Tryz.ntmps181;go_wp2_with fail;refine(HK.out _).mono ?_;rintro e w1 ⟨rfl,hb1⟩;have HB1:=Lib.hid hb1;clear hb1;go_wp2_with fail;go_ret;refine⟨uK ?_,HB1.out⟩;rw[HE.out];apply ByteArray.ext;simp
 · have HE:xM n=vC n.toNat:=if_neg hneg;rw[HE];have:=zDi n.toNat w (by omega)
   rwa [show(n.toNat:Int)=n from by omega]at this
def uD (s:ByteArray):Bool:=decide (xM (yQ s.data.toList)=s.data.toList)
theorem zIw (n:Nat) (_h:n≤999999999999999999):vC n≠[]:=by
 unfold vC;split
 · simp
 · rename_i h0;intro he;obtain⟨h1,h2⟩:=List.append_eq_nil_iff.1 he;unfold zBg at h2;split at h2
   · rename_i hr;have:=zBo 12 (n / 1000000) (by rw[zIR];omega);rw[h1]at this;simp[zQ0]at this;omega
   · cases h2
theorem zGt (n:Int) (h1:-999999999999999999≤n) (h2:n≤999999999999999999):0<(xM n).length∧(xM n).length≤21:=by
 unfold xM;split
 · have:=zBl n.natAbs (by omega);simp only[List.length_cons];omega
 · have a:=zBl n.toNat (by omega);have b:=List.length_pos_iff.2 (zIw n.toNat (by omega));omega
theorem zGu (l:List UInt8):-999999999999999999≤yQ l∧yQ l≤999999999999999999:=by
 have:=zLe l;unfold wG at this;omega
theorem zCd (s:ByteArray) (w:World) (hs:s.size≤1048576) :
 Calls Tryz.prog 128 #[.string s] w fun e w'=>e=.returned (.bool (uD s))∧Below w.heap.size w w':=by
 have hbd:=zGu s.data.toList;have hlen:=zGt _ hbd.1 hbd.2;by_cases h0:s.size=0
 · have HE:Hid (uD s=false):=by unfold Hid uD;rw[decide_eq_false_iff_not];intro h;rw[h,←Lib.size_eq]at hlen;omega
   have hem:s.toList.isEmpty=true:=by rw[yD,List.eq_nil_of_length_eq_zero (show s.data.toList.length=0 by rw[←Lib.size_eq];exact h0)];rfl
   clear hbd hlen h0;go_enter Tryz.func128,Tryz.ntmps128;go_wp2_with fail;go_ret;exact⟨zA0 HE.out.symm,Below.refl _ _⟩
 · have hem:s.toList.isEmpty=false:=by
    rw[yD]
    cases hx:s.data.toList with
    | nil=>exfalso;apply h0;rw[Lib.size_eq,hx];rfl
    | cons a l=>rfl
   by_cases h21:s.size≤21
   · have HK1:=Lib.hid (fun W=>zCF s W hs);have HK2:=Lib.hid (fun W=>zGQ (yQ s.data.toList) W hbd.1 hbd.2);have HE:Hid (uD s=decide (xM (yQ s.data.toList)=s.data.toList)):=rfl;clear hbd hlen h0;generalize yQ s.data.toList=n at *;generalize xM n=l at *;go_enter Tryz.func128,Tryz.ntmps128;go_wp2_with fail;refine(HK1.out _).mono ?_;rintro e w1 ⟨rfl,rfl⟩;go_wp2_with fail;refine(HK2.out _).mono ?_;rintro e w2 ⟨rfl,hb2⟩;have HB2:=Lib.hid hb2;clear hb2;go_wp2_with fail;go_ret;refine⟨zA0 ?_,HB2.out⟩;rw[HE.out,←yD,Bool.eq_iff_iff];simp
   · have HE:Hid (uD s=false):=by unfold Hid uD;rw[decide_eq_false_iff_not];intro h;rw[h,←Lib.size_eq]at hlen;omega
     clear hbd hlen h0;go_enter Tryz.func128,Tryz.ntmps128;go_wp2_with fail;go_ret;exact⟨zA0 HE.out.symm,Below.refl _ _⟩
end Go.Proofs.YtfpcjhajjejpdaaGreatDoor
