import Derived.Test.YtgmaamnofhmecaaGreatDoorV02
import Derived.Deep.RegionWith
import Derived.IntWalk
import Derived.Lib.ItoaNum
import Derived.Lib.SlTrimSet
set_option maxHeartbeats 1000000
open Go.Lib renaming hid → zh
namespace Go.Proofs.YtgmaamnofhmecaaGreatDoor
open Go.RowKit
theorem zCE (s:ByteArray) (n:Nat):(s.extract 0 n).data.toList=s.data.toList.take n:=by
 rw[ByteArray.data_extract,Array.toList_extract,List.extract_eq_take_drop];simp
theorem zHi (s:ByteArray) (k:Nat):(s.extract k s.size).data.toList=s.data.toList.drop k:=by
 rw[ByteArray.data_extract,Array.toList_extract,List.extract_eq_take_drop];rw[List.take_of_length_le (by rw[List.length_drop,←Lib.size_eq];exact Nat.le_refl _)]
theorem zFO (p:UInt8→Bool) (l:List UInt8):l.take (l.takeWhile p).length=l.takeWhile p:=by
 conv=>lhs;rw[←List.takeWhile_append_dropWhile (p:=p) (l:=l)]
 exact List.take_left' (by rw[List.takeWhile_append_dropWhile])
theorem zLk (p:UInt8→Bool) (l:List UInt8):l.drop (l.takeWhile p).length=l.dropWhile p:=by
 conv=>lhs;arg 2;rw[←List.takeWhile_append_dropWhile (p:=p) (l:=l)]
 exact List.drop_left' rfl
theorem zLn (l:List UInt8):(Lib.trimPrefix l [46],Lib.hasPrefix l [46])=(match zU0 l with | some t=>(t,true) | none=>(l,false)):=by
 unfold Lib.trimPrefix Lib.hasPrefix
 cases l with
 | nil=>rfl
 | cons c r =>
   by_cases hc:c=46
   · subst hc;simp[zU0]
   · have h1:¬(46:UInt8)=c:=fun h=>hc h.symm;have h2:([46]:List UInt8).isPrefixOf (c::r)=false:=by show(((46:UInt8)==c)&&_)=false;rw[show((46:UInt8)==c)=false by simpa using h1];rfl
     simp[zU0,hc,h2]
theorem zDE (r:List UInt8):∀c∈r.takeWhile isD++(zAf r++List.replicate 6 48).take 6,isD c=true:=by
 intro c hc;rcases List.mem_append.1 hc with h | h
 · exact wR _ _ h
 · rcases List.mem_append.1 (List.mem_of_mem_take h) with h | h
   · unfold zAf at h;split at h
     · exact wR _ _ h
     · cases h
   · rw[List.eq_of_mem_replicate h];decide
theorem zIx (l t:List UInt8) (h:zU0 l=some t):t.length≤l.length:=by
 cases l with
 | nil=>cases h
 | cons c r =>
   by_cases hc:c=46
   · rw[zU0,if_pos hc]at h;injection h with h;subst h;simp
   · rw[zU0,if_neg hc]at h;cases h
theorem zJh (R F:ByteArray) (k:Nat) (hk:k=(R.data.toList.takeWhile isD).length) :
 (R.extract 0 k++(F++⟨#[48,48,48,48,48,48]⟩).extract 0 6).data.toList=R.data.toList.takeWhile isD++(F.data.toList++List.replicate 6 48).take 6:=by
 rw[ByteArray.data_append,Array.toList_append,zCE,zCE,hk,zFO,ByteArray.data_append,Array.toList_append];rfl
set_option maxRecDepth 100000 in
theorem zBO (s:ByteArray) (w:World) (hs:s.size≤1048576) :
 Calls Tryz.prog 252 #[.string s] w fun e w'=>e=.returned (.int .i64 (zIa s.data.toList))∧Below w.heap.size w w':=by
 have HK:=zh (fun W=>Tryz.strings_TrimLeft_set s ⟨#[43,45]⟩ W (by decide) (ascii_of_all (by decide)));have hL:=uK zAT s.data.toList;have hS:=Lib.size_eq s;go_enter Tryz.func252,Tryz.ntmps252;go_wp2_with fail;refine(HK.out _).mono ?_;rintro e w1 ⟨rfl,hB1⟩;rw[zLD];obtain⟨R,hR⟩:∃R:ByteArray,R=⟨(s.data.toList.dropWhile zAT).toArray⟩:=⟨_,rfl⟩;have hRl:R.data.toList=s.data.toList.dropWhile zAT:=by rw[hR]
 have hRs:R.size=(s.data.toList.dropWhile zAT).length:=by rw[←hRl,Lib.size_eq]
 rw[←hR];have HR:=zh hRl;have hR2:R.size≤s.size:=by omega
 have hG:s.size-R.size=(s.data.toList.takeWhile zAT).length:=by omega
 have HG:=zh hG;have HB1:=zh hB1;clear hR hRl hRs hL hS hG hB1;go_wp2_with fail;refine(Tryz.strings_Count_one _ 45 _).mono ?_;rintro e w' ⟨rfl,rfl⟩;obtain⟨N,hN⟩:∃N:Nat,N=Lib.countByte (s.extract 0 (s.size-R.size)).data.toList 45:=⟨_,rfl⟩;rw[←hN]
 have hN2:N=(s.data.toList.takeWhile zAT).count 45:=by
  rw[hN,HG.out];unfold Lib.countByte
  congr 1
  rw[zCE,zFO]
 have hN3:N≤s.size:=by rw[hN2];have h1:=List.count_le_length (a:=(45:UInt8)) (l:=s.data.toList.takeWhile zAT);have h2:=HG.out;omega
 have HN:=zh hN2;clear hN hN2;have HK2:=zh (fun W=>zCH R W (by omega));go_wp2_with fail;refine(HK2.out _).mono ?_;rintro e w2 ⟨rfl,hB2⟩;obtain⟨k,hk⟩:∃k:Nat,k=(R.data.toList.takeWhile isD).length:=⟨_,rfl⟩;rw[←hk];have hk2:k≤R.size:=by have:=uK isD R.data.toList;rw[←Lib.size_eq]at this;omega
 have HW:=zh hk;have HB2:=zh (HB1.out.later hB2);clear hk hB2 HB1 HK2;go_wp2_with fail;refine(Tryz.strings_CutPrefix _ _ _).mono ?_;rintro e w3 ⟨rfl,rfl⟩;have hD:(R.extract k R.size).data.toList=R.data.toList.dropWhile isD:=by rw[zHi,HW.out,zLk]
 rw[hD];have hcut:=zLn (R.data.toList.dropWhile isD);have hc1:=congrArg Prod.fst hcut;have hc2:=congrArg Prod.snd hcut;simp only at hc1 hc2
 cases hb:zU0 (R.data.toList.dropWhile isD) with
 | none =>
   rw[hb]at hc1 hc2;simp only at hc1 hc2;have HE:Hid (zAf R.data.toList=[]):=by unfold Hid zAf;rw[hb]
   rw[hc1,hc2];clear hc1 hc2 hcut hb hD;generalize R.data.toList.dropWhile isD=D at *;go_wp2_with fail;have HT:=zJh R ⟨#[]⟩ k HW.out;rw[show(⟨#[]⟩:ByteArray).data.toList=zAf R.data.toList from HE.out.symm]at HT;obtain⟨T,hTd⟩:∃T:ByteArray,T=R.extract 0 k++((⟨#[]⟩:ByteArray)++⟨#[48,48,48,48,48,48]⟩).extract 0 6:=⟨_,rfl⟩;rw[←hTd]at HT ⊢;clear hTd;have hTs:T.size≤2097152:=by rw[Lib.size_eq,HT,List.length_append];have h1:=uK isD R.data.toList;rw[←Lib.size_eq]at h1;have h2:((zAf R.data.toList++List.replicate 6 48).take 6).length≤6:=List.length_take_le _ _;omega
   have hTn:uH T.data.toList 0=zJX R.data.toList:=by rw[HT];rfl
   have hTd:∀c∈T.data.toList,isD c=true:=by rw[HT];exact zDE _
   refine(zEe T 0 _ hTs (by omega) hTd).mono ?_;rintro e w5 ⟨rfl,hB5⟩;have HB5:=zh ((HB2.out).later hB5);have hle:uH T.data.toList 0≤999999999999999999:=by rw[hTn,zGk];exact zAZ _
   have HX:Hid (zIa s.data.toList=if N % 2=1 then -((uH T.data.toList 0:Nat):Int) else (uH T.data.toList 0:Nat)):=by unfold Hid zIa;rw[hTn,HN.out,HR.out]
   clear hTn hTd hTs HT hB5;generalize uH T.data.toList 0=V at *;by_cases hpar:N % 2=1
   · have hp2:((N:Int) % 2==1)=true:=by rw[beq_iff_eq];omega
     go_wp2_with fail;go_ret;exact⟨yB (by rw[HX.out,if_pos hpar]),HB5.out⟩
   · have hp2:((N:Int) % 2==1)=false:=by rw[beq_eq_false_iff_ne];omega
     go_wp2_with fail;go_ret;exact⟨yB (by rw[HX.out,if_neg hpar]),HB5.out⟩
 | some t =>
   rw[hb]at hc1 hc2;simp only at hc1 hc2;have HE:Hid (zAf R.data.toList=t.takeWhile isD):=by unfold Hid zAf;rw[hb]
   have htl:t.length≤R.size:=by have h1:=uK isD R.data.toList;rw[←Lib.size_eq]at h1;have h2:=zIx _ _ hb;omega
   rw[hc1,hc2];clear hc1 hc2 hcut hb hD;generalize R.data.toList.dropWhile isD=D at *;obtain⟨U,hU⟩:∃U:ByteArray,U=⟨t.toArray⟩:=⟨_,rfl⟩;rw[←hU];have hUt:U.data.toList=t:=by rw[hU]
   have hUs:U.size≤R.size:=by rw[Lib.size_eq,hUt];exact htl
   clear hU;have HU:=zh hUt;clear hUt htl;have HK2:=zh (fun W=>zCH U W (by omega));go_wp2_with fail;refine(HK2.out _).mono ?_;rintro e w4 ⟨rfl,hB4⟩;obtain⟨j,hj⟩:∃j:Nat,j=(U.data.toList.takeWhile isD).length:=⟨_,rfl⟩;rw[←hj];have hj2:j≤U.size:=by have:=uK isD U.data.toList;rw[←Lib.size_eq]at this;omega
   have hF:(U.extract 0 j).data.toList=zAf R.data.toList:=by rw[zCE,hj,zFO,HU.out,HE.out]
   have HF:=zh hF;have HB4:=zh (HB2.out.later hB4);have HJ:=zh hj;clear hj hF hB4 HK2;obtain⟨Fr,hFr⟩:∃Fr:ByteArray,Fr=U.extract 0 j:=⟨_,rfl⟩;go_wp2_with fail;have HT:=zJh R (U.extract 0 j) k HW.out;rw[HF.out]at HT;obtain⟨T,hTd⟩:∃T:ByteArray,T=R.extract 0 k++(U.extract 0 j++⟨#[48,48,48,48,48,48]⟩).extract 0 6:=⟨_,rfl⟩;rw[←hTd]at HT ⊢;clear hTd;have hTs:T.size≤2097152:=by rw[Lib.size_eq,HT,List.length_append];have h1:=uK isD R.data.toList;rw[←Lib.size_eq]at h1;have h2:((zAf R.data.toList++List.replicate 6 48).take 6).length≤6:=List.length_take_le _ _;omega
   have hTn:uH T.data.toList 0=zJX R.data.toList:=by rw[HT];rfl
   have hTd:∀c∈T.data.toList,isD c=true:=by rw[HT];exact zDE _
   refine(zEe T 0 _ hTs (by omega) hTd).mono ?_;rintro e w5 ⟨rfl,hB5⟩;have HB5:=zh ((HB4.out).later hB5);have hle:uH T.data.toList 0≤999999999999999999:=by rw[hTn,zGk];exact zAZ _
   have HX:Hid (zIa s.data.toList=if N % 2=1 then -((uH T.data.toList 0:Nat):Int) else (uH T.data.toList 0:Nat)):=by unfold Hid zIa;rw[hTn,HN.out,HR.out]
   clear hTn hTd hTs HT hB5;generalize uH T.data.toList 0=V at *;by_cases hpar:N % 2=1
   · have hp2:((N:Int) % 2==1)=true:=by rw[beq_iff_eq];omega
     go_wp2_with fail;go_ret;exact⟨yB (by rw[HX.out,if_pos hpar]),HB5.out⟩
   · have hp2:((N:Int) % 2==1)=false:=by rw[beq_eq_false_iff_ne];omega
     go_wp2_with fail;go_ret;exact⟨yB (by rw[HX.out,if_neg hpar]),HB5.out⟩
end Go.Proofs.YtgmaamnofhmecaaGreatDoor
namespace Go.Proofs.YtgmaamnofhmecaaGreatDoor
open Go.RowKit
def xK (n:Nat):List UInt8:=if n=0 then [] else Lib.decDigits n
theorem zBL (n:Nat) (h:n≠0):xK n=xK (n / 10)++[UInt8.ofNat (48+n % 10)]:=by
 unfold xK;rw[if_neg h];by_cases h10:n<10
 · rw[Lib.decDigits_one h10,if_pos (by omega)];simp[Nat.mod_eq_of_lt h10]
 · rw[Lib.decDigits,dif_neg h10,if_neg (by omega)]
theorem vW:∀(f n:Nat),n<10 ^ f→(xK n).length≤f
 | 0,n,h=>by
   obtain rfl:n=0:=by simpa using h
   simp[xK]
 | f+1,n,h=>by
   by_cases h0:n=0
   · subst h0;simp[xK]
   · rw[zBL n h0,List.length_append];have:=vW f (n / 10) (by rw[Nat.pow_succ]at h;omega);simp;omega
theorem zJL {P:Program} (src dst e:TypeId) (hs:P.underlying src=some (.slice e)) (he:P.underlying e=some (.int .u8)) (hd:P.underlying dst=some .string) (W:World) (b n:Nat) (hn:n<256)
 (hc:W.cell? ⟨b,0,none⟩=some (.int .u8 (n:Int))):(convert src dst (.slice (some ⟨b,0,none⟩) 1 1)).run P W=.ok (.string ⟨#[UInt8.ofNat n]⟩) W:=by
 have:=run_convert_bytes_back (P:=P) W src dst e ⟨b,0,none⟩ 1 [UInt8.ofNat n] hs he hd (fun j hj=>by
  obtain rfl:j=0:=by simpa using hj
  simp only[Addr.add,if_pos];rw[hc]
  simp[Nat.mod_eq_of_lt hn])
 simpa using this
theorem zLU (w:World) (v:Value) (t:TypeId):((w.alloc (.cells #[v] t)).drew).cell? ⟨w.heap.size,0,none⟩=some v:=by
 have h:=cell_of_row (w.alloc (.cells #[v] t)) w.heap.size 0 #[v] t (0,0) (heap_alloc_new w _);exact h
theorem zLR:(10:Nat) ^ 18=1000000000000000000:=by decide +kernel
theorem yL {a b:ByteArray} (h:a=b):Ending.returned (.string a)=.returned (.string b):=by rw[h]
theorem zAO:∀(f n:Nat) (w:World),n<10 ^ f→f≤18 →
 Calls Tryz.prog 286 #[.int .i64 n] w fun e w'=>e=.returned (.string ⟨(xK n).toArray⟩)∧Below w.heap.size w w'
 | 0,n,w,h,_=>by
   obtain rfl:n=0:=by simpa using h
   have HE:Hid ((⟨#[]⟩:ByteArray)=⟨(xK 0).toArray⟩):=rfl;go_enter Tryz.func286,Tryz.ntmps286;go_wp2_with fail;go_ret;exact⟨yL HE.out,Below.refl _ _⟩
 | f+1,n,w,h,hf=>by
   by_cases h0:n=0
   · subst h0;have HE:Hid ((⟨#[]⟩:ByteArray)=⟨(xK 0).toArray⟩):=rfl;go_enter Tryz.func286,Tryz.ntmps286;go_wp2_with fail;go_ret;exact⟨yL HE.out,Below.refl _ _⟩
   · have hlt:n / 10<10 ^ f:=by rw[Nat.pow_succ]at h;omega
     have HIH:=zh (fun W=>zAO f (n / 10) W hlt (by omega));have hb18:n<10 ^ 18:=Nat.lt_of_lt_of_le h (Nat.pow_le_pow_right (by omega) (by omega));have hb:((n:Int)==0)=false:=by rw[beq_eq_false_iff_ne];omega
     have hl:=vW f (n / 10) hlt;have HE:Hid ((⟨(xK (n / 10)).toArray⟩:ByteArray)++⟨#[UInt8.ofNat (48+n % 10)]⟩=⟨(xK n).toArray⟩):=by unfold Hid;rw[zBL n h0];apply ByteArray.ext;simp
     have hcv:=fun W b hc=>zJL (P:=Tryz.prog) 22 9 5 Tryz.underlying22 Tryz.underlying5 Tryz.underlying9 W b (48+n % 10) (by omega) hc;rw[show((48+n % 10:Nat):Int)=48+(n:Int) % 10 from by omega]at hcv;rw[zLR]at hb18;have hn18:=hb18;clear h hlt hb18 h0;have hc10:((n / 10:Nat):Int)=(n:Int) / 10:=by omega
     rw[hc10]at HIH;clear hc10;generalize xK (n / 10)=l at *;generalize UInt8.ofNat (48+n % 10)=dg at *;go_enter Tryz.func286,Tryz.ntmps286;go_wp2_with fail;have hw1:IntKind.i64.wrap ((n:Int) / 10)=(n:Int) / 10:=IntWalk.i64_in _ (by omega);have hw2:((n:Int)).tmod 10=(n:Int) % 10:=Int.tmod_eq_emod_of_nonneg (by omega);have hw3:IntKind.i64.wrap (48+(n:Int) % 10)=48+(n:Int) % 10:=IntWalk.i64_in _ (by omega);have hw4:IntKind.u8.wrap (48+(n:Int) % 10)=48+(n:Int) % 10:=by simp[IntKind.wrap,IntKind.signed,IntKind.bits];omega
     go_region_with (go_at_call 286;refine(HIH.out _).mono ?_;rintro e w1 ⟨rfl,hb1⟩;(first | (with_reducible have hk1:=cell_later hb1 (zLU w _ _)) | skip))
     all_goals
      have HB:=zh hb1;clear hb1;go_wp2_with fail;go_ret
      first
        | exact⟨yL HE.out,zD0 HB.out⟩
        | exact⟨yL HE.out,(zD0 HB.out).later (Below.new _ _)⟩
        | exact⟨yL HE.out,(Below.new _ _).later (zD0 HB.out)⟩
end Go.Proofs.YtgmaamnofhmecaaGreatDoor
namespace Go.Proofs.YtgmaamnofhmecaaGreatDoor
open Go.RowKit
def xL (l:List UInt8):List UInt8:=Lib.trimRightS l [48]
def zBt (rest:Nat):List UInt8:=if rest=0 then [] else 46::xL ((xK (1000000+rest)).drop 1)
def yC (n:Nat):List UInt8:=if n=0 then [48] else xK (n / 1000000)++zBt (n % 1000000)
def wM (n:Int):List UInt8:=if n<0 then 45::yC n.natAbs else yC n.toNat
theorem zHI (l:List UInt8):xL (l++[48])=xL l:=by
 unfold xL Lib.trimRightS;rw[List.reverse_append];simp
theorem zHJ (l:List UInt8) (c:UInt8) (h:c≠48):xL (l++[c])=l++[c]:=by
 unfold xL Lib.trimRightS;rw[List.reverse_append];have:([48]:List UInt8).contains c=false:=by simpa using h
 simp[h]
theorem zBY {p:UInt8→Bool}:∀(l:List UInt8),l.dropWhile p=[]→∀c∈l,p c=true
 | [],_,c,h=>by cases h
 | x::r,h,c,hc=>by
   by_cases hx:p x=true
   · rw[List.dropWhile_cons_of_pos hx]at h;rcases List.mem_cons.1 hc with rfl | hc
     · exact hx
     · exact zBY r h c hc
   · rw[List.dropWhile_cons_of_neg hx]at h;cases h
theorem zJr (l:List UInt8) (h:xL l=[]):∀c∈l,c=48:=by
 intro c hc;have h1:l.reverse.dropWhile (([48]:List UInt8).contains ·)=[]:=by have:=congrArg List.reverse h;simpa [xL,Lib.trimRightS] using this
 have:=zBY _ h1 c (by simpa using hc);simpa using this
theorem zFh (l:List UInt8):(xL l).length≤l.length:=by
 unfold xL Lib.trimRightS;rw[List.length_reverse];have:=(List.dropWhile_sublist (p:=(([48]:List UInt8).contains ·)) (l:=l.reverse)).length_le;simpa using this
theorem zLz (n:Nat) (h:n<10):dV (UInt8.ofNat (48+n))=n:=by
 unfold dV;rw[UInt8.toNat_ofNat',Nat.mod_eq_of_lt (by omega)];omega
theorem zDp (a b:List UInt8) (n:Nat):xQ (a++b) n=xQ b (xQ a n):=by
 unfold xQ;rw[List.foldl_append]
theorem zBF:∀(f n:Nat),n<10 ^ f→xQ (xK n) 0=n
 | 0,n,h=>by
   obtain rfl:n=0:=by simpa using h
   rfl
 | f+1,n,h=>by
   by_cases h0:n=0
   · subst h0;rfl
   · rw[zBL n h0,zDp,zBF f (n / 10) (by rw[Nat.pow_succ]at h;omega)];show 10*(n / 10)+dV (UInt8.ofNat (48+n % 10))=n;rw[zLz _ (by omega)];omega
theorem zLA:∀(l:List UInt8),(∀c∈l,c=48)→l=List.replicate l.length 48
 | [],_=>rfl
 | x::r,h=>by rw[h x List.mem_cons_self,List.length_cons,List.replicate_succ,←zLA r (fun c hc=>h c (List.mem_cons_of_mem _ hc))]
theorem zEF:∀(f n:Nat),n<10 ^ f→∀c∈xK n,dV c≤9
 | 0,n,h,c,hc=>by
   obtain rfl:n=0:=by simpa using h
   simp[xK]at hc
 | f+1,n,h,c,hc=>by
   by_cases h0:n=0
   · subst h0;simp[xK]at hc
   · rw[zBL n h0]at hc;rcases List.mem_append.1 hc with h1 | h1
     · exact zEF f (n / 10) (by rw[Nat.pow_succ]at h;omega) c h1
     · rw[List.mem_singleton.1 h1,zLz _ (by omega)];omega
theorem zLG:(10:Nat) ^ 7=10000000:=by decide
theorem zLh (rest:Nat) (h0:0<rest) (h1:rest<1000000):xL ((xK (1000000+rest)).drop 1)≠[]:=by
 intro h;have hall:=zJr _ h;have hlt:1000000+rest<10 ^ 7:=by rw[zLG];omega
 have hl:=vW 7 _ hlt;have hv:=zBF 7 _ hlt;have hd:=zEF 7 _ hlt
 cases hL:xK (1000000+rest) with
 | nil=>rw[hL]at hv;simp[xQ]at hv;omega
 | cons d r =>
   rw[hL]at hall hv hl hd;have hr:=zLA r hall;have hd9:=hd d List.mem_cons_self;rw[show d::r=[d]++r from rfl,zDp,hr,zAG]at hv;have hv1:xQ [d] 0=dV d:=by simp[xQ]
   rw[hv1]at hv;simp only[List.length_cons]at hl;have hk:r.length≤6:=by omega
   by_cases h6:r.length=6
   · rw[h6]at hv;have:(10:Nat) ^ 6=1000000:=by decide
     rw[this]at hv;omega
   · have h5:(10:Nat) ^ r.length≤10 ^ 5:=Nat.pow_le_pow_right (by omega) (by omega);have h6:(10:Nat) ^ 5=100000:=by decide
     have:dV d*10 ^ r.length≤9*100000:=Nat.le_trans (Nat.mul_le_mul_left _ h5) (by rw[h6];exact Nat.mul_le_mul_right _ hd9);omega
end Go.Proofs.YtgmaamnofhmecaaGreatDoor
