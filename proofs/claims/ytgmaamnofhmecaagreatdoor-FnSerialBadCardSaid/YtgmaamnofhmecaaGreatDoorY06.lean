import Derived.Test.YtgmaamnofhmecaaGreatDoorY05
set_option linter.unusedSimpArgs false
open Go.Lib renaming hid → zh
namespace Go.Proofs.YtgmaamnofhmecaaGreatDoor
open Go.RowKit
theorem zBG (s:ByteArray) (n:Nat):(s.extract 0 n).data.toList=s.data.toList.take n:=by
 rw[ByteArray.data_extract,Array.toList_extract,List.extract_eq_take_drop];simp
theorem zGC (s:ByteArray) (k:Nat):(s.extract k s.size).data.toList=s.data.toList.drop k:=by
 rw[ByteArray.data_extract,Array.toList_extract,List.extract_eq_take_drop];rw[List.take_of_length_le (by rw[List.length_drop,←Lib.size_eq];exact Nat.le_refl _)]
theorem zEY (p:UInt8→Bool) (l:List UInt8):l.take (l.takeWhile p).length=l.takeWhile p:=by
 conv=>lhs;rw[←List.takeWhile_append_dropWhile (p:=p) (l:=l)]
 exact List.take_left' (by rw[List.takeWhile_append_dropWhile])
theorem zKq (p:UInt8→Bool) (l:List UInt8):l.drop (l.takeWhile p).length=l.dropWhile p:=by
 conv=>lhs;arg 2;rw[←List.takeWhile_append_dropWhile (p:=p) (l:=l)]
 exact List.drop_left' rfl
theorem zKs (l:List UInt8):(Lib.trimPrefix l [46],Lib.hasPrefix l [46])=(match vN l with | some t=>(t,true) | none=>(l,false)):=by
 unfold Lib.trimPrefix Lib.hasPrefix
 cases l with
 | nil=>rfl
 | cons c r =>
   by_cases hc:c=46
   · subst hc;simp[vN]
   · have h1:¬(46:UInt8)=c:=fun h=>hc h.symm;have h2:([46]:List UInt8).isPrefixOf (c::r)=false:=by show(((46:UInt8)==c)&&_)=false;rw[show((46:UInt8)==c)=false by simpa using h1];rfl
     simp[vN,hc,h2]
theorem zCF (r:List UInt8):∀c∈r.takeWhile isD++(zU0 r++List.replicate 6 48).take 6,isD c=true:=by
 intro c hc;rcases List.mem_append.1 hc with h | h
 · exact uK _ _ h
 · rcases List.mem_append.1 (List.mem_of_mem_take h) with h | h
   · unfold zU0 at h;split at h
     · exact uK _ _ h
     · cases h
   · rw[List.eq_of_mem_replicate h];decide
theorem zHL (l t:List UInt8) (h:vN l=some t):t.length≤l.length:=by
 cases l with
 | nil=>cases h
 | cons c r =>
   by_cases hc:c=46
   · rw[vN,if_pos hc]at h;injection h with h;subst h;simp
   · rw[vN,if_neg hc]at h;cases h
theorem zIm (R F:ByteArray) (k:Nat) (hk:k=(R.data.toList.takeWhile isD).length) :
 (R.extract 0 k++(F++⟨#[48,48,48,48,48,48]⟩).extract 0 6).data.toList=R.data.toList.takeWhile isD++(F.data.toList++List.replicate 6 48).take 6:=by
 rw[ByteArray.data_append,Array.toList_append,zBG,zBG,hk,zEY,ByteArray.data_append,Array.toList_append];rfl
set_option maxRecDepth 100000 in
set_option maxHeartbeats 1000000 in
theorem zBc (s:ByteArray) (w:World) (hs:s.size≤1048576) :
 Calls Tryz.prog 252 #[.string s] w fun e w'=>e=.returned (.int .i64 (zHq s.data.toList))∧Below w.heap.size w w':=by
 have HK:=zh (fun W=>Tryz.strings_TrimLeft_set s ⟨#[43,45]⟩ W (by decide) (ascii_of_all (by decide)));have hL:=zI0 zAb s.data.toList;have hS:=Lib.size_eq s;go_enter Tryz.func252,Tryz.ntmps252;go_wp2_with fail;refine(HK.out _).mono ?_;rintro e w1 ⟨rfl,hB1⟩;rw[zKJ];obtain⟨R,hR⟩:∃R:ByteArray,R=⟨(s.data.toList.dropWhile zAb).toArray⟩:=⟨_,rfl⟩;have hRl:R.data.toList=s.data.toList.dropWhile zAb:=by rw[hR]
 have hRs:R.size=(s.data.toList.dropWhile zAb).length:=by rw[←hRl,Lib.size_eq]
 rw[←hR];have HR:=zh hRl;have hR2:R.size≤s.size:=by omega
 have hG:s.size-R.size=(s.data.toList.takeWhile zAb).length:=by omega
 have HG:=zh hG;have HB1:=zh hB1;clear hR hRl hRs hL hS hG hB1;go_wp2_with fail;refine(Tryz.strings_Count_one _ 45 _).mono ?_;rintro e w' ⟨rfl,rfl⟩;obtain⟨N,hN⟩:∃N:Nat,N=Lib.countByte (s.extract 0 (s.size-R.size)).data.toList 45:=⟨_,rfl⟩;rw[←hN]
 have hN2:N=(s.data.toList.takeWhile zAb).count 45:=by
  rw[hN,HG.out];unfold Lib.countByte
  congr 1
  rw[zBG,zEY]
 have hN3:N≤s.size:=by rw[hN2];have h1:=List.count_le_length (a:=(45:UInt8)) (l:=s.data.toList.takeWhile zAb);have h2:=HG.out;omega
 have HN:=zh hN2;clear hN hN2;have HK2:=zh (fun W=>zBI R W (by omega));go_wp2_with fail;refine(HK2.out _).mono ?_;rintro e w2 ⟨rfl,hB2⟩;obtain⟨k,hk⟩:∃k:Nat,k=(R.data.toList.takeWhile isD).length:=⟨_,rfl⟩;rw[←hk];have hk2:k≤R.size:=by have:=zI0 isD R.data.toList;rw[←Lib.size_eq]at this;omega
 have HW:=zh hk;have HB2:=zh (HB1.out.later hB2);clear hk hB2 HB1 HK2;go_wp2_with fail;refine(Tryz.strings_CutPrefix _ _ _).mono ?_;rintro e w3 ⟨rfl,rfl⟩;have hD:(R.extract k R.size).data.toList=R.data.toList.dropWhile isD:=by rw[zGC,HW.out,zKq]
 rw[hD];have hcut:=zKs (R.data.toList.dropWhile isD);have hc1:=congrArg Prod.fst hcut;have hc2:=congrArg Prod.snd hcut;simp only at hc1 hc2
 cases hb:vN (R.data.toList.dropWhile isD) with
 | none =>
   rw[hb]at hc1 hc2;simp only at hc1 hc2;have HE:Hid (zU0 R.data.toList=[]):=by unfold Hid zU0;rw[hb]
   rw[hc1,hc2];clear hc1 hc2 hcut hb hD;generalize R.data.toList.dropWhile isD=D at *;go_wp2_with fail;have HT:=zIm R ⟨#[]⟩ k HW.out;rw[show(⟨#[]⟩:ByteArray).data.toList=zU0 R.data.toList from HE.out.symm]at HT;obtain⟨T,hTd⟩:∃T:ByteArray,T=R.extract 0 k++((⟨#[]⟩:ByteArray)++⟨#[48,48,48,48,48,48]⟩).extract 0 6:=⟨_,rfl⟩;rw[←hTd]at HT ⊢;clear hTd;have hTs:T.size≤2097152:=by rw[Lib.size_eq,HT,List.length_append];have h1:=zI0 isD R.data.toList;rw[←Lib.size_eq]at h1;have h2:((zU0 R.data.toList++List.replicate 6 48).take 6).length≤6:=List.length_take_le _ _;omega
   have hTn:wF T.data.toList 0=zJe R.data.toList:=by rw[HT];rfl
   have hTd:∀c∈T.data.toList,isD c=true:=by rw[HT];exact zCF _
   refine(zDl T 0 _ hTs (by omega) hTd).mono ?_;rintro e w5 ⟨rfl,hB5⟩;have HB5:=zh ((HB2.out).later hB5);have hle:wF T.data.toList 0≤999999999999999999:=by rw[hTn,zFC];exact zAe _
   have HX:Hid (zHq s.data.toList=if N % 2=1 then -((wF T.data.toList 0:Nat):Int) else (wF T.data.toList 0:Nat)):=by unfold Hid zHq;rw[hTn,HN.out,HR.out]
   clear hTn hTd hTs HT hB5;generalize wF T.data.toList 0=V at *;by_cases hpar:N % 2=1
   · have hp2:((N:Int) % 2==1)=true:=by rw[beq_iff_eq];omega
     go_wp2_with fail;go_ret;exact⟨xB (by rw[HX.out,if_pos hpar]),HB5.out⟩
   · have hp2:((N:Int) % 2==1)=false:=by rw[beq_eq_false_iff_ne];omega
     go_wp2_with fail;go_ret;exact⟨xB (by rw[HX.out,if_neg hpar]),HB5.out⟩
 | some t =>
   rw[hb]at hc1 hc2;simp only at hc1 hc2;have HE:Hid (zU0 R.data.toList=t.takeWhile isD):=by unfold Hid zU0;rw[hb]
   have htl:t.length≤R.size:=by have h1:=zI0 isD R.data.toList;rw[←Lib.size_eq]at h1;have h2:=zHL _ _ hb;omega
   rw[hc1,hc2];clear hc1 hc2 hcut hb hD;generalize R.data.toList.dropWhile isD=D at *;obtain⟨U,hU⟩:∃U:ByteArray,U=⟨t.toArray⟩:=⟨_,rfl⟩;rw[←hU];have hUt:U.data.toList=t:=by rw[hU]
   have hUs:U.size≤R.size:=by rw[Lib.size_eq,hUt];exact htl
   clear hU;have HU:=zh hUt;clear hUt htl;have HK2:=zh (fun W=>zBI U W (by omega));go_wp2_with fail;refine(HK2.out _).mono ?_;rintro e w4 ⟨rfl,hB4⟩;obtain⟨j,hj⟩:∃j:Nat,j=(U.data.toList.takeWhile isD).length:=⟨_,rfl⟩;rw[←hj];have hj2:j≤U.size:=by have:=zI0 isD U.data.toList;rw[←Lib.size_eq]at this;omega
   have hF:(U.extract 0 j).data.toList=zU0 R.data.toList:=by rw[zBG,hj,zEY,HU.out,HE.out]
   have HF:=zh hF;have HB4:=zh (HB2.out.later hB4);have HJ:=zh hj;clear hj hF hB4 HK2;obtain⟨Fr,hFr⟩:∃Fr:ByteArray,Fr=U.extract 0 j:=⟨_,rfl⟩;go_wp2_with fail;have HT:=zIm R (U.extract 0 j) k HW.out;rw[HF.out]at HT;obtain⟨T,hTd⟩:∃T:ByteArray,T=R.extract 0 k++(U.extract 0 j++⟨#[48,48,48,48,48,48]⟩).extract 0 6:=⟨_,rfl⟩;rw[←hTd]at HT ⊢;clear hTd;have hTs:T.size≤2097152:=by rw[Lib.size_eq,HT,List.length_append];have h1:=zI0 isD R.data.toList;rw[←Lib.size_eq]at h1;have h2:((zU0 R.data.toList++List.replicate 6 48).take 6).length≤6:=List.length_take_le _ _;omega
   have hTn:wF T.data.toList 0=zJe R.data.toList:=by rw[HT];rfl
   have hTd:∀c∈T.data.toList,isD c=true:=by rw[HT];exact zCF _
   refine(zDl T 0 _ hTs (by omega) hTd).mono ?_;rintro e w5 ⟨rfl,hB5⟩;have HB5:=zh ((HB4.out).later hB5);have hle:wF T.data.toList 0≤999999999999999999:=by rw[hTn,zFC];exact zAe _
   have HX:Hid (zHq s.data.toList=if N % 2=1 then -((wF T.data.toList 0:Nat):Int) else (wF T.data.toList 0:Nat)):=by unfold Hid zHq;rw[hTn,HN.out,HR.out]
   clear hTn hTd hTs HT hB5;generalize wF T.data.toList 0=V at *;by_cases hpar:N % 2=1
   · have hp2:((N:Int) % 2==1)=true:=by rw[beq_iff_eq];omega
     go_wp2_with fail;go_ret;exact⟨xB (by rw[HX.out,if_pos hpar]),HB5.out⟩
   · have hp2:((N:Int) % 2==1)=false:=by rw[beq_eq_false_iff_ne];omega
     go_wp2_with fail;go_ret;exact⟨xB (by rw[HX.out,if_neg hpar]),HB5.out⟩
end Go.Proofs.YtgmaamnofhmecaaGreatDoor
