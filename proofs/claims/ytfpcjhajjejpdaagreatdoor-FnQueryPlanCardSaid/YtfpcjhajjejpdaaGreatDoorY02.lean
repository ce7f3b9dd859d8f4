import Derived.Test.YtfpcjhajjejpdaaGreatDoorY00
import Derived.Test.YtfpcjhajjejpdaaGreatDoorY01
import Derived.Deep.RegionWith
import Derived.IntWalk
import Derived.Lib.ItoaNum
import Derived.Lib.SlTrimSet
set_option maxHeartbeats 2000000
open Go.Lib renaming hid → zh
namespace Go.Proofs.YtfpcjhajjejpdaaGreatDoor
open Go.RowKit
set_option maxRecDepth 100000 in
theorem zNP (l:List UInt8):Lib.trimLeftS l [48,49,50,51,52,53,54,55,56,57]=l.dropWhile isD:=by
 unfold Lib.trimLeftS
 congr 1
 funext c
 have h:∀n:Fin 256,([48,49,50,51,52,53,54,55,56,57]:List UInt8).contains (UInt8.ofNat n.val)=isD (UInt8.ofNat n.val):=by decide
 have:=h ⟨c.toNat,c.toNat_lt⟩
 rwa [UInt8.ofNat_toNat]at this
set_option maxRecDepth 100000 in
theorem zNB (l:List UInt8):Lib.trimLeftS l [43,45]=l.dropWhile zBw:=by
 unfold Lib.trimLeftS
 congr 1
 funext c
 have h:∀n:Fin 256,([43,45]:List UInt8).contains (UInt8.ofNat n.val)=zBw (UInt8.ofNat n.val):=by decide
 have:=h ⟨c.toNat,c.toNat_lt⟩
 rwa [UInt8.ofNat_toNat]at this
theorem vN (p:UInt8→Bool) (l:List UInt8):(l.takeWhile p).length+(l.dropWhile p).length=l.length:=by
 rw[←List.length_append,List.takeWhile_append_dropWhile]
theorem zDe (s:ByteArray) (w:World) (hs:s.size≤1048576) :
 Calls Tryz.prog 207 #[.string s] w fun e w'=>e=.returned (.int .i64 (s.data.toList.takeWhile isD).length)∧Below w.heap.size w w':=by
 have HL:=zh (vN isD s.data.toList);have HS:=zh (Lib.size_eq s);have HK:=zh (fun W=>Tryz.strings_TrimLeft_set s ⟨#[48,49,50,51,52,53,54,55,56,57]⟩ W (by decide) (ascii_of_all (by decide)));go_enter Tryz.func207,Tryz.ntmps207;go_wp2_with fail;refine(HK.out _).mono ?_;rintro e w' ⟨rfl,hB⟩;rw[zNP];have hz:(ByteArray.mk (s.data.toList.dropWhile isD).toArray).size=(s.data.toList.dropWhile isD).length:=by simp[ByteArray.size]
 generalize s.data.toList.dropWhile isD=D at *;go_wp2_with fail;go_ret;refine⟨zC0 ?_,hB⟩;have h1:=HL.out;have h2:=HS.out;rw[IntWalk.wrap64_in _ ⟨by omega,by omega⟩];omega
set_option maxRecDepth 100000 in
theorem zEG (s:ByteArray) (n0:Nat) (w:World) (hs:s.size≤2097152) (hn0:n0≤999999999999999999) (hd:∀c∈s.data.toList,isD c=true) :
 Calls Tryz.prog 209 #[.int .i64 n0,.string s] w fun e w'=>e=.returned (.int .i64 (uK s.data.toList n0))∧Below w.heap.size w w':=by
 have hconv:=run_bytes_of_string (P:=Tryz.prog) w 9 22 5 s Tryz.underlying9 Tryz.underlying22 Tryz.underlying5;have HC:Hid (∀j (h:j<s.size),(bytesRow s (grownCap w s.size 0 5))[j]?=some (.int .u8 (s[j].toNat:Int))):=fun j h=>bytesRow_at s _ j h;generalize grownCap w s.size 0 5=cap at *;generalize bytesRow s cap=C at *;have HD:=zh hd;have HB:Hid (Below w.heap.size w (w.alloc (.cells C 5 (C.size,C.size+1))).drew):=by unfold Hid;exact(Below.new w _).drew
 clear hd;go_enter Tryz.func209,Tryz.ntmps209;go_wp2_with fail
 go_loop [0,10] (fun n i=>∃(k m:Nat),k≤s.size∧m≤999999999999999999∧n=.int .i64 m∧i=.int .i64 k∧Hid (uK s.data.toList n0=uK (s.data.toList.drop k) m)) (fun _ i=>s.size-(intOf i).toNat)
 case atStart=>exact⟨0,n0,Nat.zero_le _,hn0,rfl,rfl,rfl⟩
 case round =>
  obtain⟨k,m,hk,hm,rfl,rfl,hS⟩:=hrel;clear hconv;by_cases hlt:k<s.size
  · have HR:=zh (yN s k hlt);have hcell:(w.alloc (.cells C 5 (C.size,C.size+1))).cell? ⟨w.heap.size,k,none⟩=some (.int .u8 (s[k].toNat:Int)):=by rw[World.cell?_alloc_mark];exact HC.out k hlt
    have hdk:isD s[k]=true:=HD.out _ (by have:s.data.toList[k]'(by rw[←Lib.size_eq];exact hlt)=s[k]:=rfl;rw[←this];exact List.getElem_mem _);have hge:48≤s[k].toNat:=by simp[isD]at hdk;exact hdk.1
    have hle:s[k].toNat≤57:=by simp[isD]at hdk;exact hdk.2
    have hdv:dV s[k]+48=s[k].toNat:=by unfold dV;omega
    obtain⟨d,hdd⟩:∃d:Nat,d=dV s[k]:=⟨_,rfl⟩;rw[←hdd]at hdv;have HE:Hid (uK s.data.toList n0=if (999999999999999999-d) / 10<m then 999999999999999999 else uK (s.data.toList.drop (k+1)) (10*m+d)):=by unfold Hid;rw[hS.out,HR.out,hdd];rfl
    rw[←hdv]at hcell;have hd9:d≤9:=by omega
    clear hdk hge hle hdd hdv hS;go_wp2_with fail
    · go_ret;have hc:(999999999999999999-(d:Int)) / 10<m:=by assumption
      exact⟨zC0 (by rw[HE.out,if_pos (by omega)];rfl),HB.out⟩
    · have hc:(m:Int)≤(999999999999999999-d) / 10:=by assumption
      refine⟨⟨k+1,10*m+d,by omega,by omega,by go_num,by go_num,?_⟩,by simp[intOf];omega⟩;unfold Hid;rw[HE.out,if_neg (by omega)]
  · have HE:Hid (uK s.data.toList n0=m):=by unfold Hid;rw[hS.out,yX s k (by omega)];rfl
    go_wp2_with fail;go_ret;exact⟨zC0 (by rw[HE.out]),HB.out⟩
end Go.Proofs.YtfpcjhajjejpdaaGreatDoor
namespace Go.Proofs.YtfpcjhajjejpdaaGreatDoor
open Go.RowKit
theorem zDc (s:ByteArray) (n:Nat):(s.extract 0 n).data.toList=s.data.toList.take n:=by
 rw[ByteArray.data_extract,Array.toList_extract,List.extract_eq_take_drop];simp
theorem zIz (s:ByteArray) (k:Nat):(s.extract k s.size).data.toList=s.data.toList.drop k:=by
 rw[ByteArray.data_extract,Array.toList_extract,List.extract_eq_take_drop];rw[List.take_of_length_le (by rw[List.length_drop,←Lib.size_eq];exact Nat.le_refl _)]
theorem zGO (p:UInt8→Bool) (l:List UInt8):l.take (l.takeWhile p).length=l.takeWhile p:=by
 conv=>lhs;rw[←List.takeWhile_append_dropWhile (p:=p) (l:=l)]
 exact List.take_left' (by rw[List.takeWhile_append_dropWhile])
theorem zNe (p:UInt8→Bool) (l:List UInt8):l.drop (l.takeWhile p).length=l.dropWhile p:=by
 conv=>lhs;arg 2;rw[←List.takeWhile_append_dropWhile (p:=p) (l:=l)]
 exact List.drop_left' rfl
theorem zNg (l:List UInt8):(Lib.trimPrefix l [46],Lib.hasPrefix l [46])=(match wX l with | some t=>(t,true) | none=>(l,false)):=by
 unfold Lib.trimPrefix Lib.hasPrefix
 cases l with
 | nil=>rfl
 | cons c r =>
   by_cases hc:c=46
   · subst hc;simp[wX]
   · have h1:¬(46:UInt8)=c:=fun h=>hc h.symm;have h2:([46]:List UInt8).isPrefixOf (c::r)=false:=by show(((46:UInt8)==c)&&_)=false;rw[show((46:UInt8)==c)=false by simpa using h1];rfl
     simp[wX,hc,h2]
theorem zEf (r:List UInt8):∀c∈r.takeWhile isD++(zAB r++List.replicate 6 48).take 6,isD c=true:=by
 intro c hc;rcases List.mem_append.1 hc with h | h
 · exact zU0 _ _ h
 · rcases List.mem_append.1 (List.mem_of_mem_take h) with h | h
   · unfold zAB at h;split at h
     · exact zU0 _ _ h
     · cases h
   · rw[List.eq_of_mem_replicate h];decide
theorem zJX (l t:List UInt8) (h:wX l=some t):t.length≤l.length:=by
 cases l with
 | nil=>cases h
 | cons c r =>
   by_cases hc:c=46
   · rw[wX,if_pos hc]at h;injection h with h;subst h;simp
   · rw[wX,if_neg hc]at h;cases h
theorem zKH (R F:ByteArray) (k:Nat) (hk:k=(R.data.toList.takeWhile isD).length) :
 (R.extract 0 k++(F++⟨#[48,48,48,48,48,48]⟩).extract 0 6).data.toList=R.data.toList.takeWhile isD++(F.data.toList++List.replicate 6 48).take 6:=by
 rw[ByteArray.data_append,Array.toList_append,zDc,zDc,hk,zGO,ByteArray.data_append,Array.toList_append];rfl
set_option maxRecDepth 100000 in
theorem zDG (s:ByteArray) (w:World) (hs:s.size≤1048576) :
 Calls Tryz.prog 170 #[.string s] w fun e w'=>e=.returned (.int .i64 (zJy s.data.toList))∧Below w.heap.size w w':=by
 have HK:=zh (fun W=>Tryz.strings_TrimLeft_set s ⟨#[43,45]⟩ W (by decide) (ascii_of_all (by decide)));have hL:=vN zBw s.data.toList;have hS:=Lib.size_eq s;go_enter Tryz.func170,Tryz.ntmps170;go_wp2_with fail;refine(HK.out _).mono ?_;rintro e w1 ⟨rfl,hB1⟩;rw[zNB];obtain⟨R,hR⟩:∃R:ByteArray,R=⟨(s.data.toList.dropWhile zBw).toArray⟩:=⟨_,rfl⟩;have hRl:R.data.toList=s.data.toList.dropWhile zBw:=by rw[hR]
 have hRs:R.size=(s.data.toList.dropWhile zBw).length:=by rw[←hRl,Lib.size_eq]
 rw[←hR];have HR:=zh hRl;have hR2:R.size≤s.size:=by omega
 have hG:s.size-R.size=(s.data.toList.takeWhile zBw).length:=by omega
 have HG:=zh hG;have HB1:=zh hB1;clear hR hRl hRs hL hS hG hB1;go_wp2_with fail;refine(Tryz.strings_Count_one _ 45 _).mono ?_;rintro e w' ⟨rfl,rfl⟩;obtain⟨N,hN⟩:∃N:Nat,N=Lib.countByte (s.extract 0 (s.size-R.size)).data.toList 45:=⟨_,rfl⟩;rw[←hN]
 have hN2:N=(s.data.toList.takeWhile zBw).count 45:=by
  rw[hN,HG.out];unfold Lib.countByte
  congr 1
  rw[zDc,zGO]
 have hN3:N≤s.size:=by rw[hN2];have h1:=List.count_le_length (a:=(45:UInt8)) (l:=s.data.toList.takeWhile zBw);have h2:=HG.out;omega
 have HN:=zh hN2;clear hN hN2;have HK2:=zh (fun W=>zDe R W (by omega));go_wp2_with fail;refine(HK2.out _).mono ?_;rintro e w2 ⟨rfl,hB2⟩;obtain⟨k,hk⟩:∃k:Nat,k=(R.data.toList.takeWhile isD).length:=⟨_,rfl⟩;rw[←hk];have hk2:k≤R.size:=by have:=vN isD R.data.toList;rw[←Lib.size_eq]at this;omega
 have HW:=zh hk;have HB2:=zh (HB1.out.later hB2);clear hk hB2 HB1 HK2;go_wp2_with fail;refine(Tryz.strings_CutPrefix _ _ _).mono ?_;rintro e w3 ⟨rfl,rfl⟩;have hD:(R.extract k R.size).data.toList=R.data.toList.dropWhile isD:=by rw[zIz,HW.out,zNe]
 rw[hD];have hcut:=zNg (R.data.toList.dropWhile isD);have hc1:=congrArg Prod.fst hcut;have hc2:=congrArg Prod.snd hcut;simp only at hc1 hc2
 cases hb:wX (R.data.toList.dropWhile isD) with
 | none =>
   rw[hb]at hc1 hc2;simp only at hc1 hc2;have HE:Hid (zAB R.data.toList=[]):=by unfold Hid zAB;rw[hb]
   rw[hc1,hc2];clear hc1 hc2 hcut hb hD;generalize R.data.toList.dropWhile isD=D at *;go_wp2_with fail;have HT:=zKH R ⟨#[]⟩ k HW.out;rw[show(⟨#[]⟩:ByteArray).data.toList=zAB R.data.toList from HE.out.symm]at HT;obtain⟨T,hTd⟩:∃T:ByteArray,T=R.extract 0 k++((⟨#[]⟩:ByteArray)++⟨#[48,48,48,48,48,48]⟩).extract 0 6:=⟨_,rfl⟩;rw[←hTd]at HT ⊢;clear hTd;have hTs:T.size≤2097152:=by rw[Lib.size_eq,HT,List.length_append];have h1:=vN isD R.data.toList;rw[←Lib.size_eq]at h1;have h2:((zAB R.data.toList++List.replicate 6 48).take 6).length≤6:=List.length_take_le _ _;omega
   have hTn:uK T.data.toList 0=zLL R.data.toList:=by rw[HT];rfl
   have hTd:∀c∈T.data.toList,isD c=true:=by rw[HT];exact zEf _
   refine(zEG T 0 _ hTs (by omega) hTd).mono ?_;rintro e w5 ⟨rfl,hB5⟩;have HB5:=zh ((HB2.out).later hB5);have hle:uK T.data.toList 0≤999999999999999999:=by rw[hTn,zHm];exact zBC _
   have HX:Hid (zJy s.data.toList=if N % 2=1 then -((uK T.data.toList 0:Nat):Int) else (uK T.data.toList 0:Nat)):=by unfold Hid zJy;rw[hTn,HN.out,HR.out]
   clear hTn hTd hTs HT hB5;generalize uK T.data.toList 0=V at *;by_cases hpar:N % 2=1
   · have hp2:((N:Int) % 2==1)=true:=by rw[beq_iff_eq];omega
     go_wp2_with fail;go_ret;exact⟨zC0 (by rw[HX.out,if_pos hpar]),HB5.out⟩
   · have hp2:((N:Int) % 2==1)=false:=by rw[beq_eq_false_iff_ne];omega
     go_wp2_with fail;go_ret;exact⟨zC0 (by rw[HX.out,if_neg hpar]),HB5.out⟩
 | some t =>
   rw[hb]at hc1 hc2;simp only at hc1 hc2;have HE:Hid (zAB R.data.toList=t.takeWhile isD):=by unfold Hid zAB;rw[hb]
   have htl:t.length≤R.size:=by have h1:=vN isD R.data.toList;rw[←Lib.size_eq]at h1;have h2:=zJX _ _ hb;omega
   rw[hc1,hc2];clear hc1 hc2 hcut hb hD;generalize R.data.toList.dropWhile isD=D at *;obtain⟨U,hU⟩:∃U:ByteArray,U=⟨t.toArray⟩:=⟨_,rfl⟩;rw[←hU];have hUt:U.data.toList=t:=by rw[hU]
   have hUs:U.size≤R.size:=by rw[Lib.size_eq,hUt];exact htl
   clear hU;have HU:=zh hUt;clear hUt htl;have HK2:=zh (fun W=>zDe U W (by omega));go_wp2_with fail;refine(HK2.out _).mono ?_;rintro e w4 ⟨rfl,hB4⟩;obtain⟨j,hj⟩:∃j:Nat,j=(U.data.toList.takeWhile isD).length:=⟨_,rfl⟩;rw[←hj];have hj2:j≤U.size:=by have:=vN isD U.data.toList;rw[←Lib.size_eq]at this;omega
   have hF:(U.extract 0 j).data.toList=zAB R.data.toList:=by rw[zDc,hj,zGO,HU.out,HE.out]
   have HF:=zh hF;have HB4:=zh (HB2.out.later hB4);have HJ:=zh hj;clear hj hF hB4 HK2;obtain⟨Fr,hFr⟩:∃Fr:ByteArray,Fr=U.extract 0 j:=⟨_,rfl⟩;go_wp2_with fail;have HT:=zKH R (U.extract 0 j) k HW.out;rw[HF.out]at HT;obtain⟨T,hTd⟩:∃T:ByteArray,T=R.extract 0 k++(U.extract 0 j++⟨#[48,48,48,48,48,48]⟩).extract 0 6:=⟨_,rfl⟩;rw[←hTd]at HT ⊢;clear hTd;have hTs:T.size≤2097152:=by rw[Lib.size_eq,HT,List.length_append];have h1:=vN isD R.data.toList;rw[←Lib.size_eq]at h1;have h2:((zAB R.data.toList++List.replicate 6 48).take 6).length≤6:=List.length_take_le _ _;omega
   have hTn:uK T.data.toList 0=zLL R.data.toList:=by rw[HT];rfl
   have hTd:∀c∈T.data.toList,isD c=true:=by rw[HT];exact zEf _
   refine(zEG T 0 _ hTs (by omega) hTd).mono ?_;rintro e w5 ⟨rfl,hB5⟩;have HB5:=zh ((HB4.out).later hB5);have hle:uK T.data.toList 0≤999999999999999999:=by rw[hTn,zHm];exact zBC _
   have HX:Hid (zJy s.data.toList=if N % 2=1 then -((uK T.data.toList 0:Nat):Int) else (uK T.data.toList 0:Nat)):=by unfold Hid zJy;rw[hTn,HN.out,HR.out]
   clear hTn hTd hTs HT hB5;generalize uK T.data.toList 0=V at *;by_cases hpar:N % 2=1
   · have hp2:((N:Int) % 2==1)=true:=by rw[beq_iff_eq];omega
     go_wp2_with fail;go_ret;exact⟨zC0 (by rw[HX.out,if_pos hpar]),HB5.out⟩
   · have hp2:((N:Int) % 2==1)=false:=by rw[beq_eq_false_iff_ne];omega
     go_wp2_with fail;go_ret;exact⟨zC0 (by rw[HX.out,if_neg hpar]),HB5.out⟩
end Go.Proofs.YtfpcjhajjejpdaaGreatDoor
namespace Go.Proofs.YtfpcjhajjejpdaaGreatDoor
open Go.RowKit
def uM (n:Nat):List UInt8:=if n=0 then [] else Lib.decDigits n
theorem zCr (n:Nat) (h:n≠0):uM n=uM (n / 10)++[UInt8.ofNat (48+n % 10)]:=by
 unfold uM;rw[if_neg h];by_cases h10:n<10
 · rw[Lib.decDigits_one h10,if_pos (by omega)];simp[Nat.mod_eq_of_lt h10]
 · rw[Lib.decDigits,dif_neg h10,if_neg (by omega)]
theorem zAj:∀(f n:Nat),n<10 ^ f→(uM n).length≤f
 | 0,n,h=>by
   obtain rfl:n=0:=by simpa using h
   simp[uM]
 | f+1,n,h=>by
   by_cases h0:n=0
   · subst h0;simp[uM]
   · rw[zCr n h0,List.length_append];have:=zAj f (n / 10) (by rw[Nat.pow_succ]at h;omega);simp;omega
theorem zLw {P:Program} (src dst e:TypeId) (hs:P.underlying src=some (.slice e)) (he:P.underlying e=some (.int .u8)) (hd:P.underlying dst=some .string) (W:World) (b n:Nat) (hn:n<256)
 (hc:W.cell? ⟨b,0,none⟩=some (.int .u8 (n:Int))):(convert src dst (.slice (some ⟨b,0,none⟩) 1 1)).run P W=.ok (.string ⟨#[UInt8.ofNat n]⟩) W:=by
 have:=run_convert_bytes_back (P:=P) W src dst e ⟨b,0,none⟩ 1 [UInt8.ofNat n] hs he hd (fun j hj=>by
  obtain rfl:j=0:=by simpa using hj
  simp only[Addr.add,if_pos];rw[hc]
  simp[Nat.mod_eq_of_lt hn])
 simpa using this
theorem zNU (w:World) (v:Value) (t:TypeId):((w.alloc (.cells #[v] t)).drew).cell? ⟨w.heap.size,0,none⟩=some v:=by
 have h:=cell_of_row (w.alloc (.cells #[v] t)) w.heap.size 0 #[v] t (0,0) (heap_alloc_new w _);exact h
theorem zNQ:(10:Nat) ^ 18=1000000000000000000:=by decide +kernel
theorem zO0 {a b:ByteArray} (h:a=b):Ending.returned (.string a)=.returned (.string b):=by rw[h]
theorem zBu:∀(f n:Nat) (w:World),n<10 ^ f→f≤18 →
 Calls Tryz.prog 214 #[.int .i64 n] w fun e w'=>e=.returned (.string ⟨(uM n).toArray⟩)∧Below w.heap.size w w'
 | 0,n,w,h,_=>by
   obtain rfl:n=0:=by simpa using h
   have HE:Hid ((⟨#[]⟩:ByteArray)=⟨(uM 0).toArray⟩):=rfl;go_enter Tryz.func214,Tryz.ntmps214;go_wp2_with fail;go_ret;exact⟨zO0 HE.out,Below.refl _ _⟩
 | f+1,n,w,h,hf=>by
   by_cases h0:n=0
   · subst h0;have HE:Hid ((⟨#[]⟩:ByteArray)=⟨(uM 0).toArray⟩):=rfl;go_enter Tryz.func214,Tryz.ntmps214;go_wp2_with fail;go_ret;exact⟨zO0 HE.out,Below.refl _ _⟩
   · have hlt:n / 10<10 ^ f:=by rw[Nat.pow_succ]at h;omega
     have HIH:=zh (fun W=>zBu f (n / 10) W hlt (by omega));have hb18:n<10 ^ 18:=Nat.lt_of_lt_of_le h (Nat.pow_le_pow_right (by omega) (by omega));have hb:((n:Int)==0)=false:=by rw[beq_eq_false_iff_ne];omega
     have hl:=zAj f (n / 10) hlt;have HE:Hid ((⟨(uM (n / 10)).toArray⟩:ByteArray)++⟨#[UInt8.ofNat (48+n % 10)]⟩=⟨(uM n).toArray⟩):=by unfold Hid;rw[zCr n h0];apply ByteArray.ext;simp
     have hcv:=fun W b hc=>zLw (P:=Tryz.prog) 22 9 5 Tryz.underlying22 Tryz.underlying5 Tryz.underlying9 W b (48+n % 10) (by omega) hc;rw[show((48+n % 10:Nat):Int)=48+(n:Int) % 10 from by omega]at hcv;rw[zNQ]at hb18;have hn18:=hb18;clear h hlt hb18 h0;have hc10:((n / 10:Nat):Int)=(n:Int) / 10:=by omega
     rw[hc10]at HIH;clear hc10;generalize uM (n / 10)=l at *;generalize UInt8.ofNat (48+n % 10)=dg at *;go_enter Tryz.func214,Tryz.ntmps214;go_wp2_with fail;have hw1:IntKind.i64.wrap ((n:Int) / 10)=(n:Int) / 10:=IntWalk.i64_in _ (by omega);have hw2:((n:Int)).tmod 10=(n:Int) % 10:=Int.tmod_eq_emod_of_nonneg (by omega);have hw3:IntKind.i64.wrap (48+(n:Int) % 10)=48+(n:Int) % 10:=IntWalk.i64_in _ (by omega);have hw4:IntKind.u8.wrap (48+(n:Int) % 10)=48+(n:Int) % 10:=by simp[IntKind.wrap,IntKind.signed,IntKind.bits];omega
     go_region_with (go_at_call 214;refine(HIH.out _).mono ?_;rintro e w1 ⟨rfl,hb1⟩;(first | (with_reducible have hk1:=cell_later hb1 (zNU w _ _)) | skip))
     all_goals
      have HB:=zh hb1;clear hb1;go_wp2_with fail;go_ret
      first
        | exact⟨zO0 HE.out,wD HB.out⟩
        | exact⟨zO0 HE.out,(wD HB.out).later (Below.new _ _)⟩
        | exact⟨zO0 HE.out,(Below.new _ _).later (wD HB.out)⟩
end Go.Proofs.YtfpcjhajjejpdaaGreatDoor
namespace Go.Proofs.YtfpcjhajjejpdaaGreatDoor
open Go.RowKit
def yO (l:List UInt8):List UInt8:=Lib.trimRightS l [48]
def zCb (rest:Nat):List UInt8:=if rest=0 then [] else 46::yO ((uM (1000000+rest)).drop 1)
def xE (n:Nat):List UInt8:=if n=0 then [48] else uM (n / 1000000)++zCb (n % 1000000)
def uO (n:Int):List UInt8:=if n<0 then 45::xE n.natAbs else xE n.toNat
theorem zIY (l:List UInt8):yO (l++[48])=yO l:=by
 unfold yO Lib.trimRightS;rw[List.reverse_append];simp
theorem zIZ (l:List UInt8) (c:UInt8) (h:c≠48):yO (l++[c])=l++[c]:=by
 unfold yO Lib.trimRightS;rw[List.reverse_append];have:([48]:List UInt8).contains c=false:=by simpa using h
 simp[h]
theorem zCA {p:UInt8→Bool}:∀(l:List UInt8),l.dropWhile p=[]→∀c∈l,p c=true
 | [],_,c,h=>by cases h
 | x::r,h,c,hc=>by
   by_cases hx:p x=true
   · rw[List.dropWhile_cons_of_pos hx]at h;rcases List.mem_cons.1 hc with rfl | hc
     · exact hx
     · exact zCA r h c hc
   · rw[List.dropWhile_cons_of_neg hx]at h;cases h
theorem zKQ (l:List UInt8) (h:yO l=[]):∀c∈l,c=48:=by
 intro c hc;have h1:l.reverse.dropWhile (([48]:List UInt8).contains ·)=[]:=by have:=congrArg List.reverse h;simpa [yO,Lib.trimRightS] using this
 have:=zCA _ h1 c (by simpa using hc);simpa using this
theorem zGa (l:List UInt8):(yO l).length≤l.length:=by
 unfold yO Lib.trimRightS;rw[List.length_reverse];have:=(List.dropWhile_sublist (p:=(([48]:List UInt8).contains ·)) (l:=l.reverse)).length_le;simpa using this
theorem zNx (n:Nat) (h:n<10):dV (UInt8.ofNat (48+n))=n:=by
 unfold dV;rw[UInt8.toNat_ofNat',Nat.mod_eq_of_lt (by omega)];omega
theorem zDL (a b:List UInt8) (n:Nat):yT (a++b) n=yT b (yT a n):=by
 unfold yT;rw[List.foldl_append]
theorem zCl:∀(f n:Nat),n<10 ^ f→yT (uM n) 0=n
 | 0,n,h=>by
   obtain rfl:n=0:=by simpa using h
   rfl
 | f+1,n,h=>by
   by_cases h0:n=0
   · subst h0;rfl
   · rw[zCr n h0,zDL,zCl f (n / 10) (by rw[Nat.pow_succ]at h;omega)];show 10*(n / 10)+dV (UInt8.ofNat (48+n % 10))=n;rw[zNx _ (by omega)];omega
theorem zNz:∀(l:List UInt8),(∀c∈l,c=48)→l=List.replicate l.length 48
 | [],_=>rfl
 | x::r,h=>by rw[h x List.mem_cons_self,List.length_cons,List.replicate_succ,←zNz r (fun c hc=>h c (List.mem_cons_of_mem _ hc))]
theorem zFn:∀(f n:Nat),n<10 ^ f→∀c∈uM n,dV c≤9
 | 0,n,h,c,hc=>by
   obtain rfl:n=0:=by simpa using h
   simp[uM]at hc
 | f+1,n,h,c,hc=>by
   by_cases h0:n=0
   · subst h0;simp[uM]at hc
   · rw[zCr n h0]at hc;rcases List.mem_append.1 hc with h1 | h1
     · exact zFn f (n / 10) (by rw[Nat.pow_succ]at h;omega) c h1
     · rw[List.mem_singleton.1 h1,zNx _ (by omega)];omega
theorem zNF:(10:Nat) ^ 7=10000000:=by decide
theorem zNc (rest:Nat) (h0:0<rest) (h1:rest<1000000):yO ((uM (1000000+rest)).drop 1)≠[]:=by
 intro h;have hall:=zKQ _ h;have hlt:1000000+rest<10 ^ 7:=by rw[zNF];omega
 have hl:=zAj 7 _ hlt;have hv:=zCl 7 _ hlt;have hd:=zFn 7 _ hlt
 cases hL:uM (1000000+rest) with
 | nil=>rw[hL]at hv;simp[yT]at hv;omega
 | cons d r =>
   rw[hL]at hall hv hl hd;have hr:=zNz r hall;have hd9:=hd d List.mem_cons_self;rw[show d::r=[d]++r from rfl,zDL,hr,zBi]at hv;have hv1:yT [d] 0=dV d:=by simp[yT]
   rw[hv1]at hv;simp only[List.length_cons]at hl;have hk:r.length≤6:=by omega
   by_cases h6:r.length=6
   · rw[h6]at hv;have:(10:Nat) ^ 6=1000000:=by decide
     rw[this]at hv;omega
   · have h5:(10:Nat) ^ r.length≤10 ^ 5:=Nat.pow_le_pow_right (by omega) (by omega);have h6:(10:Nat) ^ 5=100000:=by decide
     have:dV d*10 ^ r.length≤9*100000:=Nat.le_trans (Nat.mul_le_mul_left _ h5) (by rw[h6];exact Nat.mul_le_mul_right _ hd9);omega
end Go.Proofs.YtfpcjhajjejpdaaGreatDoor
namespace Go.Proofs.YtfpcjhajjejpdaaGreatDoor
open Go.RowKit
theorem zJW (t:ByteArray) (h:0<t.size):t.data.toList=(t.extract 0 (t.size-1)).data.toList++[t[t.size-1]]:=by
 rw[Lib.extract_data];simp only[List.drop_zero,Nat.sub_zero];have hl:t.size-1<t.data.toList.length:=by rw[←Lib.size_eq];omega
 have:=List.take_succ_eq_append_getElem hl;rw[show t.size-1+1=t.data.toList.length from by rw[←Lib.size_eq];omega,List.take_length]at this;exact this
theorem zHI (t:ByteArray):(t.extract 0 (t.size-1)).size=t.size-1:=by rw[ByteArray.size_extract];omega
theorem byte48 {b:UInt8}:((b.toNat:Int)==48)=true↔b=48:=by
 rw[beq_iff_eq];constructor
 · intro h;apply UInt8.toNat_inj.1;show b.toNat=48;omega
 · rintro rfl;rfl
def zLY (v:Value):Nat:=match v with | .string t=>t.size | _=>0
theorem zKx:(10:Nat) ^ 12=1000000000000:=by decide +kernel
theorem zCg (n:Nat) (h:n≤999999999999999999):(xE n).length≤20:=by
 unfold xE;split
 · simp
 · have h1:=zAj 12 (n / 1000000) (by rw[zKx];omega);rw[List.length_append];unfold zCb;split
   · simp;omega
   · have h2:=zAj 7 (1000000+n % 1000000) (by rw[zNF];omega);have h3:=zGa ((uM (1000000+n % 1000000)).drop 1);rw[List.length_drop]at h3;simp only[List.length_cons];omega
theorem zEb (n:Nat) (w:World) (hn:n≤999999999999999999) :
 Calls Tryz.prog 181 #[.int .i64 n] w fun e w'=>e=.returned (.string ⟨(xE n).toArray⟩)∧Below w.heap.size w w':=by
 have hW:n / 1000000<10 ^ 12:=by rw[zKx];omega
 have HK1:Hid (∀W,Calls Tryz.prog 214 #[.int .i64 ((n:Int) / 1000000)] W fun e w'=>e=.returned (.string ⟨(uM (n / 1000000)).toArray⟩)∧Below W.heap.size W w'):=fun W=>by
  have:=zBu 12 (n / 1000000) W hW (by omega)
  rwa [show((n / 1000000:Nat):Int)=(n:Int) / 1000000 from by omega]at this
 have hl1:=zAj 12 _ hW;clear hW;by_cases hr:n % 1000000=0
 · have HE:Hid (xE n=if n=0 then [48] else uM (n / 1000000)):=by unfold Hid xE zCb;rw[if_pos hr];simp
   have HZ:Hid (uM (n / 1000000)=[]↔n=0):=by
    unfold Hid;constructor
    · intro h;have:=zCl 12 (n / 1000000) (by rw[zKx];omega);rw[h]at this;simp[yT]at this;omega
    · rintro rfl;rfl
   have hr':¬(0:Int)<(n:Int) % 1000000:=by omega
   generalize uM (n / 1000000)=l at *;clear hr;go_enter Tryz.func181,Tryz.ntmps181;go_wp2_with fail;refine(HK1.out _).mono ?_;rintro e w1 ⟨rfl,hb1⟩;have HB1:=zh hb1;clear hb1;go_wp2_with fail
   · go_ret;have hl:l=[]:=by simpa using (show l.isEmpty=true by assumption)
     exact⟨zO0 (by rw[HE.out,if_pos (HZ.out.1 hl)]),HB1.out⟩
   · go_ret;have hl:l≠[]:=by simpa using (show l.isEmpty=false by assumption)
     exact⟨zO0 (by rw[HE.out,if_neg (fun h=>hl (HZ.out.2 h))]),HB1.out⟩
 · have hW:1000000+n % 1000000<10 ^ 7:=by rw[zNF];omega
   have HK2:Hid (∀W,Calls Tryz.prog 214 #[.int .i64 (1000000+(n:Int) % 1000000)] W fun e w'=>e=.returned (.string ⟨(uM (1000000+n % 1000000)).toArray⟩)∧Below W.heap.size W w'):=fun W=>by
    have:=zBu 7 (1000000+n % 1000000) W hW (by omega)
    rwa [show((1000000+n % 1000000:Nat):Int)=1000000+(n:Int) % 1000000 from by omega]at this
   have hl2:=zAj 7 _ hW;have hpos:(0:Int)<(n:Int) % 1000000:=by omega
   have hne:=zNc (n % 1000000) (by omega) (by omega);have HE:Hid (xE n=uM (n / 1000000)++46::yO ((uM (1000000+n % 1000000)).drop 1)):=by unfold Hid xE zCb;rw[if_neg (by omega),if_neg hr]
   have hl3:0<(uM (1000000+n % 1000000)).length:=by
    rcases Nat.eq_zero_or_pos (uM (1000000+n % 1000000)).length with h | h
    · exfalso;apply hne;rw[List.eq_nil_of_length_eq_zero h];rfl
    · exact h
   have HNE:=zh hne;clear hW hr hne;generalize uM (n / 1000000)=l at *;generalize uM (1000000+n % 1000000)=F at *;go_enter Tryz.func181,Tryz.ntmps181;go_wp2_with fail;refine(HK1.out _).mono ?_;rintro e w1 ⟨rfl,hb1⟩;have HB1:=zh hb1;clear hb1;go_wp2_with fail;refine(HK2.out _).mono ?_;rintro e w2 ⟨rfl,hb2⟩;have HB2:=zh (HB1.out.later hb2);clear hb2;go_wp2_with fail
   go_loop [5] (fun v=>∃t:ByteArray,v=.string t∧t.size≤7∧Hid (yO t.data.toList=yO (F.drop 1))) (fun v=>zLY v)
   case atStart =>
    refine⟨_,rfl,?_,?_⟩
    · rw[ByteArray.size_extract];simp[ByteArray.size];omega
    · unfold Hid;rw[Lib.extract_data];show yO ((F.drop 1).take (F.length-1))=_;rw[List.take_of_length_le (by simp)]
   case round =>
    obtain⟨t,rfl,ht,hT⟩:=hrel
    have h0:0<t.size:=by
     rcases Nat.eq_zero_or_pos t.size with h | h
     · exfalso;apply HNE.out;rw[←hT.out,List.eq_nil_of_length_eq_zero (show t.data.toList.length=0 by rw[←Lib.size_eq];exact h)];rfl
     · exact h
    have HS:=zh (zJW t h0);have hem:(({ data:=l.toArray }:ByteArray)++(({ data:=#[46] }:ByteArray)++t)).toList.isEmpty=false:=by rw[wE,ByteArray.data_append,ByteArray.data_append,Array.toList_append,Array.toList_append];simp
    go_wp2_with fail
    · have hb:t[t.size-1]=48:=byte48.1 (by assumption)
      go_round
      case rel=>exact⟨_,rfl,by rw[zHI];omega,by unfold Hid;rw[←hT.out,HS.out,hb,zIY]⟩
      case measure=>simp only[zLY];have:=zHI t;show(t.extract 0 (t.size-1)).size<t.size;omega
    · have hb:t[t.size-1]≠48:=fun h=>by
       have h1:=byte48.2 h;have h2:((t[t.size-1].toNat:Int)==48)=false:=by assumption
       rw[h1]at h2;cases h2
      have HT:Hid (yO (F.drop 1)=t.data.toList):=by
       unfold Hid;rw[←hT.out]
       conv=>lhs;rw[HS.out]
       rw[zIZ _ _ hb,←HS.out]
      clear hb;go_ret;refine⟨zO0 ?_,HB2.out⟩;rw[HE.out,HT.out];apply ByteArray.ext;rw[ByteArray.data_append,ByteArray.data_append];apply Array.toList_inj.1;simp
theorem zIo (n:Int) (w:World) (h1:-999999999999999999≤n) (h2:n≤999999999999999999) :
 Calls Tryz.prog 181 #[.int .i64 n] w fun e w'=>e=.returned (.string ⟨(uO n).toArray⟩)∧Below w.heap.size w w':=by
 by_cases hneg:n<0
 · have HK:Hid (∀W,Calls Tryz.prog 181 #[.int .i64 (-n)] W fun e w'=>e=.returned (.string ⟨(xE n.natAbs).toArray⟩)∧Below W.heap.size W w'):=fun W=>by
    have:=zEb n.natAbs W (by omega)
    rwa [show(n.natAbs:Int)=-n from by omega]at this
   have HE:Hid (uO n=45::xE n.natAbs):=if_pos hneg;have hlen:=zCg n.natAbs (by omega);generalize xE n.natAbs=l at *;go_enter Tryz.func181,Tryz.ntmps181;go_wp2_with fail;refine(HK.out _).mono ?_;rintro e w1 ⟨rfl,hb1⟩;have HB1:=zh hb1;clear hb1;go_wp2_with fail;go_ret;refine⟨zO0 ?_,HB1.out⟩;rw[HE.out];apply ByteArray.ext;simp
 · have HE:uO n=xE n.toNat:=if_neg hneg;rw[HE];have:=zEb n.toNat w (by omega)
   rwa [show(n.toNat:Int)=n from by omega]at this
def wF (s:ByteArray):Bool:=decide (uO (xT s.data.toList)=s.data.toList)
theorem zKb (n:Nat) (_h:n≤999999999999999999):xE n≠[]:=by
 unfold xE;split
 · simp
 · rename_i h0;intro he;obtain⟨h1,h2⟩:=List.append_eq_nil_iff.1 he;unfold zCb at h2;split at h2
   · rename_i hr;have:=zCl 12 (n / 1000000) (by rw[zKx];omega);rw[h1]at this;simp[yT]at this;omega
   · cases h2
theorem zHP (n:Int) (h1:-999999999999999999≤n) (h2:n≤999999999999999999):0<(uO n).length∧(uO n).length≤21:=by
 unfold uO;split
 · have:=zCg n.natAbs (by omega);simp only[List.length_cons];omega
 · have a:=zCg n.toNat (by omega);have b:=List.length_pos_iff.2 (zKb n.toNat (by omega));omega
theorem zHQ (l:List UInt8):-999999999999999999≤xT l∧xT l≤999999999999999999:=by
 have:=zMT l;unfold xI at this;omega
theorem zCX (s:ByteArray) (w:World) (hs:s.size≤1048576) :
 Calls Tryz.prog 128 #[.string s] w fun e w'=>e=.returned (.bool (wF s))∧Below w.heap.size w w':=by
 have hbd:=zHQ s.data.toList;have hlen:=zHP _ hbd.1 hbd.2;by_cases h0:s.size=0
 · have HE:Hid (wF s=false):=by unfold Hid wF;rw[decide_eq_false_iff_not];intro h;rw[h,←Lib.size_eq]at hlen;omega
   have hem:s.toList.isEmpty=true:=by rw[wE,List.eq_nil_of_length_eq_zero (show s.data.toList.length=0 by rw[←Lib.size_eq];exact h0)];rfl
   clear hbd hlen h0;go_enter Tryz.func128,Tryz.ntmps128;go_wp2_with fail;go_ret;exact⟨zA0 HE.out.symm,Below.refl _ _⟩
 · have hem:s.toList.isEmpty=false:=by
    rw[wE]
    cases hx:s.data.toList with
    | nil=>exfalso;apply h0;rw[Lib.size_eq,hx];rfl
    | cons a l=>rfl
   by_cases h21:s.size≤21
   · have HK1:=zh (fun W=>zDB s W hs);have HK2:=zh (fun W=>zIo (xT s.data.toList) W hbd.1 hbd.2);have HE:Hid (wF s=decide (uO (xT s.data.toList)=s.data.toList)):=rfl;clear hbd hlen h0;generalize xT s.data.toList=n at *;generalize uO n=l at *;go_enter Tryz.func128,Tryz.ntmps128;go_wp2_with fail;refine(HK1.out _).mono ?_;rintro e w1 ⟨rfl,rfl⟩;go_wp2_with fail;refine(HK2.out _).mono ?_;rintro e w2 ⟨rfl,hb2⟩;have HB2:=zh hb2;clear hb2;go_wp2_with fail;go_ret;refine⟨zA0 ?_,HB2.out⟩;rw[HE.out,←wE,Bool.eq_iff_iff];simp
   · have HE:Hid (wF s=false):=by unfold Hid wF;rw[decide_eq_false_iff_not];intro h;rw[h,←Lib.size_eq]at hlen;omega
     clear hbd hlen h0;go_enter Tryz.func128,Tryz.ntmps128;go_wp2_with fail;go_ret;exact⟨zA0 HE.out.symm,Below.refl _ _⟩
end Go.Proofs.YtfpcjhajjejpdaaGreatDoor
