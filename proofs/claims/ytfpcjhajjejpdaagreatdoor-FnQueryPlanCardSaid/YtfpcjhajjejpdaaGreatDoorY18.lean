import Derived.Test.YtfpcjhajjejpdaaGreatDoorY17
import Derived.Test.YtfpcjhajjejpdaaGreatDoorY15
import Derived.Test.YtfpcjhajjejpdaaGreatDoorY01
import Derived.Test.YtfpcjhajjejpdaaGreatDoorY00
import Derived.Test.YtfpcjhajjejpdaaGreatDoorY05
import Derived.Test.YtfpcjhajjejpdaaGreatDoorY07
import Derived.Lib.IndexBytes
import Derived.Laws.BitsAllLaws
set_option maxHeartbeats 4000000
open Go.Lib renaming hid → zh
namespace Go.Proofs.YtfpcjhajjejpdaaGreatDoor
open Go.RowKit
theorem zLO (s:ByteArray) (w:World) (hs:s.size≤1048576) :
 Calls Tryz.prog 164 #[.string s,.string ⟨#[94]⟩] w fun e w'=>∃v,e=.returned v∧Own.SubO w' w.heap.size v (zAE 94 s)∧Below w.heap.size w w':=by
 have hle:=Lib.countB_le ⟨#[94]⟩ (by decide) s.size s (Nat.le_refl _);have hlen:=Lib.splitB_all ⟨#[94]⟩ (by decide) 0 _ s rfl
 have c:=Any.strings_genSplit_core Tryz.lays221 (by kernel_rfl) s ⟨#[94]⟩ 0 (-1) (Lib.countB s ⟨#[94]⟩+1) w (by omega) (by decide) (Nat.zero_le _)
  (fun x c hx=>(Tryz.strings_Index_one x 94 _).mono fun e w' ⟨he,hw⟩=>⟨by rw[he];show _=Ending.returned (Value.int .i64 (Lib.index x.data.toList [94]));rw[Lib.index_one],hw⟩)
  ((Tryz.strings_Count_one s 94 w).mono fun e w' ⟨he,hw⟩=>⟨by rw[he];show _=Ending.returned (Value.int .i64 ((Lib.count s.data.toList [94]:Nat):Int));rw[Lib.count_one];rfl,hw⟩)
  (by decide) (by decide) (by rw[if_pos (by decide)];omega)
 rw[Nat.add_sub_cancel,hlen]at c;have e2:Lib.cellsOf (Lib.splitB ⟨#[94]⟩ 0 (Lib.countB s ⟨#[94]⟩) s) (Lib.countB s ⟨#[94]⟩+1)=((Lib.splitB ⟨#[94]⟩ 0 (Lib.countB s ⟨#[94]⟩) s).map Value.string).toArray:=by rw[←hlen];exact Lib.cellsOf_full _
 rw[e2,zEC]at c;rw[zEC]at hlen;have HN:Hid (Lib.countB s ⟨#[94]⟩+1=(zAE 94 s).length):=hlen.symm;rw[HN.out]at c;have hml:(zAE 94 s).length≤s.size+1:=by rw[hlen];omega
 have HC:=zh c;clear c e2 hlen hle;generalize zAE 94 s=ss at *;go_enter Tryz.func164,Tryz.ntmps164;go_wp2_with fail;refine HC.out.mono ?_;rintro e w1 ⟨rfl,rfl⟩;go_wp2_with fail;go_ret;exact⟨_,rfl,Own.sub_of_blk (ss:=ss) (xC rfl) (Nat.le_refl _) (by unfold maxLen;omega),Below.new _ _⟩
def vK (row:List ByteArray):ByteArray:=⟨(Lib.join ((row.drop 1).map (·.data.toList)) [94]).toArray⟩
theorem zKA (c:UInt8) (m:Nat):∀(l:List (List UInt8)),(∀x∈l,x.length≤m)→(Lib.join l [c]).length≤l.length*(m+1)
 | [],_=>by simp[Lib.join,List.intercalate]
 | [x],h=>by have:=h x (by simp);rw[zBd];simp;omega
 | x::y::r,h=>by have ih:=zKA c m (y::r) (fun z hz=>h z (List.mem_cons_of_mem _ hz));have:=h x (by simp);rw[vU];simp only[List.length_append,List.length_cons,List.length_nil]at ih ⊢;rw[Nat.add_mul (r.length+1)];omega
theorem zMR (row:List ByteArray) (h:∀s∈row,s.size≤1048576) (hl:row.length≤1048576):(Lib.join ((row.drop 1).map (·.data.toList)) [94]).length≤140737488355328:=by
 have h1:=zKA 94 1048576 ((row.drop 1).map (·.data.toList)) (fun x hx=>by
  obtain⟨s,hs,rfl⟩:=List.mem_map.1 hx;have:=h s (List.mem_of_mem_drop hs);rw[Lib.size_eq]at this
  exact this)
 have h2:((row.drop 1).map (·.data.toList)).length≤1048576:=by rw[List.length_map,List.length_drop];omega
 have h3:=Nat.mul_le_mul_right 1048577 h2;omega
theorem zJu (r0:Value) (row:List ByteArray) (w:World) (hr:RowR w w.heap.size r0 row) (hs:wH row) (hpos:0<row.length) :
 Calls Tryz.prog 143 #[.agg #[r0]] w fun e w'=>e=.returned (.string (vK row))∧Below w.heap.size w w':=by
 have HL:=zh (zMR row hs.2 hs.1);obtain⟨R0,rn,rc,rfl,hS,hrc⟩:=hr;have hln:=hS.1;have hn:rn≤1048576:=by rw[←hln];exact hs.1
 obtain⟨rb,ro,rfl,hrb,hcell⟩:=hS.2 (by omega);have HP:Hid (vK row=⟨(Lib.join ((row.drop 1).map (·.data.toList)) [94]).toArray⟩):=rfl;have HB0:=zh (Below.new w (.cells #[.slice (some ⟨rb,ro,none⟩) rn rc] 40));have HE0:Hid (rn=1→vK row=⟨#[]⟩):=fun h=>by unfold vK;rw[List.drop_of_length_le (by omega)];rfl
 have HK:Hid (∀W,Below w.heap.size w W→Calls Tryz.prog 191 #[.slice (some ⟨rb,ro+1,none⟩) (rn-1) (rc-1),.string ⟨#[94]⟩] W fun e w'=>e=.returned (.string (vK row))∧Below W.heap.size W w'):=fun W hW=>by
  have h:=Tryz.strings_Join rb (ro+1) (rc-1) (row.drop 1) ⟨#[94]⟩ W (fun j x hx=>by
   rw[List.getElem?_drop]at hx
   have hj:1+j<row.length:=by
    rcases Nat.lt_or_ge (1+j) row.length with h | h
    · exact h
    · rw[List.getElem?_eq_none h]at hx;cases hx
   have h1:=(hW.cell (p:=⟨rb,ro+(1+j),none⟩) hrb).trans (hcell (1+j) (by omega));rw[List.getD_eq_getElem?_getD,hx]at h1;rw[Nat.add_assoc]
   exact h1) (Nat.lt_of_lt_of_le hrb hW.size) (by rw[List.length_drop];omega) (by rw[List.length_drop];omega) HL.out
  rw[List.length_drop,hln]at h;exact h
 have hrn:(1:Int)≤(rn:Int):=by omega
 clear hS hcell hs;generalize vK row=R at *;go_enter Tryz.func143,Tryz.ntmps143;by_cases hc1:rc=1
 · obtain rfl:rn=1:=by omega
   subst hc1;have HE:=zh (HE0.out rfl);have HJ:=zh (fun W=>Tryz.strings_Join_none (some ⟨rb,ro,none⟩) 0 ⟨#[94]⟩ W);go_wp2_with fail;refine(HJ.out _).mono ?_;rintro e w1 ⟨rfl,rfl⟩;go_wp2_with fail;go_ret;exact⟨by rw[HE.out];rfl,HB0.out⟩
 · go_wp2_with fail;refine(HK.out _ HB0.out).mono ?_;rintro e w1 ⟨rfl,hb1⟩;have HB1:=zh (HB0.out.later hb1);clear hb1;go_wp2_with fail;go_ret;exact⟨rfl,HB1.out⟩
end Go.Proofs.YtfpcjhajjejpdaaGreatDoor
namespace Go.Proofs.YtfpcjhajjejpdaaGreatDoor
open Go.RowKit _root_.Go.Proofs.YtfpcjhajjejpdaaGreatDoor.Own
set_option linter.unusedVariables false
def Ints (w:World) (B:Nat) (A:Option Addr) (n:Nat) (zs:List Int):Prop :=
 zs.length=n∧(0<n→∃b o,A=some ⟨b,o,none⟩∧b<B∧∀j,j<n→w.cell? ⟨b,o+j,none⟩=some (.int .i64 (zs.getD j 0)))
section
variable {w w':World} {B B' n:Nat} {A:Option Addr} {zs:List Int}
theorem Ints.keep (h:Ints w B A n zs) (hk:∀p:Addr,p.block<B→w'.cell? p=w.cell? p):Ints w' B A n zs :=
 ⟨h.1,fun hn=>by
   obtain⟨b,o,e,hb,hc⟩:=h.2 hn
   exact⟨b,o,e,hb,fun j hj=>(hk _ hb).trans (hc j hj)⟩⟩
theorem Ints.more (h:Ints w B A n zs) (hB:B≤B'):Ints w B' A n zs :=
 ⟨h.1,fun hn=>by
   obtain⟨b,o,e,hb,hc⟩:=h.2 hn
   exact⟨b,o,e,by omega,hc⟩⟩
theorem Ints.later (h:Ints w w.heap.size A n zs) (hb:Below w.heap.size w w'):Ints w' w'.heap.size A n zs:=(h.keep fun _ hp=>hb.cell hp).more hb.size
end
def BytesR (w:World) (B:Nat) (A:Option Addr) (n:Nat):Prop:=0<n→∃b o,A=some ⟨b,o,none⟩∧b<B∧∀j,j<n→∃x:Nat,w.cell? ⟨b,o+j,none⟩=some (.int .u8 x)∧x≤255
def SrcR (w:World) (p K:Nat):Prop:=∃(A:Option Addr) (n c a s:Nat),Blk w p 117 #[.slice A n c,.int .i64 a,.int .u64 s]∧BytesR w p A n∧a≤K∧n≤1048576∧s<18446744073709551616
theorem BytesR.later {w w':World} {B:Nat} {A:Option Addr} {n:Nat} (h:BytesR w B A n) (hk:∀i,i<B→w'.heap[i]?=w.heap[i]?):BytesR w' B A n:=fun hn=>by
 obtain⟨b,o,e,hb,hc⟩:=h hn;refine⟨b,o,e,hb,fun j hj=>?_⟩;obtain⟨x,h1,h2⟩:=hc j hj;exact⟨x,(World.cell?_of_block (w:=w) (hk b hb)).trans h1,h2⟩
theorem SrcR.later {w w':World} {p K:Nat} (h:SrcR w p K) (hb:Below w.heap.size w w'):SrcR w' p K:=by
 obtain⟨A,n,c,a,s,hB,hY,h1,h2,h3⟩:=h;exact⟨A,n,c,a,s,hB.later hb hB.lt,hY.later (fun i hi=>hb.block i (by have:=hB.lt;omega)),h1,h2,h3⟩
theorem SrcR.mono {w:World} {p K K':Nat} (h:SrcR w p K) (hK:K≤K'):SrcR w p K':=by
 obtain⟨A,n,c,a,s,hB,hY,h1,h2,h3⟩:=h;exact⟨A,n,c,a,s,hB,hY,by omega,h2,h3⟩
theorem SrcR.lt {w:World} {p K:Nat} (h:SrcR w p K):p<w.heap.size:=by
 obtain⟨A,n,c,a,s,hB,_⟩:=h;exact hB.lt
structure Drawn (p K:Nat) (w w':World):Prop where
 src:SrcR w' p K
 chg:Chg (fun g=>g=p) w w'
theorem Drawn.later {p K:Nat} {a b c:World} (h:Drawn p K a b) (hb:Below b.heap.size b c):Drawn p K a c:=⟨h.src.later hb,h.chg.trans (Chg.of_below hb)⟩
theorem Drawn.trans {p K K':Nat} {a b c:World} (h:Drawn p K a b) (k:Drawn p K' b c):Drawn p K' a c:=⟨k.src,h.chg.trans k.chg⟩
theorem SrcR.not_own {w:World} {p K:Nat} (h:SrcR w p K) {base e size n:Nat} {v:Value} {xs:List Value} (hr:w.ownsRow base e size v n xs) (he:e≠117):Own.inP (fun g=>¬g=p) v:=fun g hg e1=>by
 obtain⟨A,m,c,a,s,hB,_⟩:=h;subst e1;exact own_blk_ne hr hB he hg
theorem OwnL.drawn {α:Type} [Inhabited α] {D:Kind α} {w w':World} {p K K' base t:Nat} {v:Value} {fs:List α} {vs:List Value} (h:OwnL D w base t v fs vs) (hs:SrcR w p K) (hd:Drawn p K' w w') (ht:t≠117):OwnL D w' base t v fs vs :=
 OwnL.chg h hd.chg (hs.not_own h.row ht) (fun u hu=>by
  obtain⟨j,hj,rfl⟩:=mem_getD hu
  exact hs.not_own (h.subs j (by rw[←h.len];exact hj)) (by decide))
theorem _root_.Go.Proofs.YtfpcjhajjejpdaaGreatDoor.Own.Chg.drewN {P:Nat→Prop} {a b:World} (h:Chg P a b) (q:Nat):Chg P a (b.drewN q):=h.trans (Chg.of_below (wA (Below.refl _ _) q))
theorem zKt {w:World} {p K a s s2 n c:Nat} {A:Option Addr} (hB:Blk w p 117 #[.slice A n c,.int .i64 a,.int .u64 s]) (hY:BytesR w p A n) (ha:a≤K) (hn:n≤1048576) (hs:s2<18446744073709551616) (q q2:Nat) :
 Drawn p (K+1) w ((((w.drewN q).setCell ⟨p,1,none⟩ (.int .i64 ((a:Int)+1))).setCell ⟨p,2,none⟩ (.int .u64 s2)).drewN q2):=by
 have hc:Chg (fun g=>g=p) w ((((w.drewN q).setCell ⟨p,1,none⟩ (.int .i64 ((a:Int)+1))).setCell ⟨p,2,none⟩ (.int .u64 s2)).drewN q2) :=
  Chg.drewN (Chg.set (Chg.set (P:=fun g=>g=p) (Chg.drewN (Chg.refl (fun g=>g=p) w) q) (g:=p) rfl 1 (.int .i64 ((a:Int)+1))) (g:=p) rfl 2 (.int .u64 s2)) q2
 have h1:Blk (w.drewN q) p 117 #[.slice A n c,.int .i64 a,.int .u64 s]:=hB;have h2:=(h1.set_ 1 (.int .i64 ((a:Int)+1))).set_ 2 (.int .u64 s2)
 have h3:Blk ((((w.drewN q).setCell ⟨p,1,none⟩ (.int .i64 ((a:Int)+1))).setCell ⟨p,2,none⟩ (.int .u64 s2)).drewN q2) p 117 #[.slice A n c,.int .i64 ((a+1:Nat):Int),.int .u64 s2]:=by
  have h4:Blk ((((w.drewN q).setCell ⟨p,1,none⟩ (.int .i64 ((a:Int)+1))).setCell ⟨p,2,none⟩ (.int .u64 s2))) p 117 #[.slice A n c,.int .i64 ((a+1:Nat):Int),.int .u64 s2]:=by simpa using h2
  exact h4
 exact⟨⟨A,n,c,a+1,s2,h3,hY.later (fun i hi=>hc.block i (by have:=hB.lt;omega) (by omega)),by omega,hn,hs⟩,hc⟩
theorem zMn (s:Nat) (h:s<18446744073709551616):∃x:Nat,wrap64 (bits BinOp.and IntKind.u64 ((s:Int) / 1099511627776) 255)=x∧x≤255:=by
 have e:(s:Int) / 1099511627776=((s / 1099511627776:Nat):Int):=by omega
 have h1:=u64_and_nat (s / 1099511627776) 255 (by omega) (by omega);have h2:s / 1099511627776 &&& 255≤255:=Nat.and_le_right;refine⟨s / 1099511627776 &&& 255,?_,h2⟩;rw[e];have h3:bits BinOp.and IntKind.u64 ((s / 1099511627776:Nat):Int) 255=((s / 1099511627776 &&& 255:Nat):Int):=h1;rw[h3];unfold wrap64;omega
theorem zKq (z:Int):∃s:Nat,IntKind.u64.wrap z=s∧s<18446744073709551616 :=
 ⟨(z % 18446744073709551616).toNat,by rw[IntKind.wrap_u64];omega,by omega⟩
theorem zHS (p K:Nat) (w:World) (h:SrcR w p K) (hK:K≤1099511627776) :
 Calls Tryz.prog 153 #[.pointer (some ⟨p,0,none⟩)] w fun e w'=>∃x:Nat,e=.returned (.int .i64 x)∧x≤255∧Drawn p (K+1) w w':=by
 obtain⟨A,n,c,a,s,hB,hY,ha,hn,hs⟩:=h;have HB:=zh hB;have HY:=zh hY;have c0:=hB.cell 0;have c1:=hB.cell 1;have c2:=hB.cell 2;have f1:=hB.frozen 1;have f2:=hB.frozen 2;have hz:=hB.lt;simp at c0 c1 c2;clear hB hY;go_enter Tryz.func153,Tryz.ntmps153;by_cases hlt:a<n
 · obtain⟨b,o,rfl,hb,hc⟩:=HY.out (by omega);obtain⟨x,hx,hx2⟩:=hc a hlt;clear hc;go_wp2_with fail
   go_quiet (fail)
   go_wp2_with fail
   go_quiet (fail)
   go_wp2_with fail;obtain⟨s2,hs2,hs3⟩:=zKq (IntKind.u64.wrap (IntKind.u64.wrap ((s:Int)*6364136223846793005)+x)+1442695040888963407);rw[hs2];clear hs2
   go_quiet (fail)
   go_wp2_with fail;go_ret;exact⟨x,rfl,hx2,zKt HB.out HY.out ha hn hs3 _ _⟩
 · go_wp2_with fail
   go_quiet (fail)
   go_wp2_with fail;obtain⟨s2,hs2,hs3⟩:=zKq (IntKind.u64.wrap (IntKind.u64.wrap ((s:Int)*6364136223846793005))+1442695040888963407);rw[hs2];clear hs2;have hnot:¬(a:Int)+1≤(n:Int):=by omega
   go_quiet (fail)
   go_wp2_with fail;obtain⟨x,hx,hx2⟩:=zMn s2 hs3;rw[hx];go_ret;exact⟨x,rfl,hx2,zKt HB.out HY.out ha hn hs3 _ _⟩
theorem Drawn.refl {p K:Nat} {w:World} (h:SrcR w p K):Drawn p K w w:=⟨h,Chg.refl _ _⟩
theorem Drawn.mono {p K K':Nat} {a b:World} (h:Drawn p K a b) (hK:K≤K'):Drawn p K' a b:=⟨h.src.mono hK,h.chg⟩
theorem zIA (z n:Int) (h:0<n):∃x:Nat,z % n=x∧(x:Int)<n :=
 ⟨(z % n).toNat,by have:=Int.emod_nonneg z (show n≠0 by omega);omega,by have:=Int.emod_lt_of_pos z h;have:=Int.emod_nonneg z (show n≠0 by omega);omega⟩
theorem xG (p K:Nat) (n:Int) (w:World) (h:SrcR w p K) (hK:K≤1099511627775) (hn:n≤4294967296) :
 Calls Tryz.prog 93 #[.pointer (some ⟨p,0,none⟩),.int .i64 n] w fun e w'=>∃x:Nat,e=.returned (.int .i64 x)∧((x:Int)<n∨x=0)∧Drawn p (K+2) w w':=by
 have HK1:=zh (zHS p K w h (by omega));have HK2:=zh (fun W (hW:SrcR W p (K+1))=>zHS p (K+1) W hW (by omega));have HD0:=zh ((Drawn.refl h).mono (show K≤K+2 by omega));clear h;go_enter Tryz.func93,Tryz.ntmps93;by_cases h1:n≤1
 · go_wp2_with fail;go_ret;exact⟨0,rfl,.inr rfl,HD0.out⟩
 · go_wp2_with fail;refine HK1.out.mono ?_;rintro e w1 ⟨x,rfl,hx,hd1⟩;have HD1:=zh (hd1.mono (show K+1≤K+2 by omega));have HN:=zh (HK2.out w1 hd1.src);have HD2:=zh hd1;clear hd1 HK1 HK2;have hn0:¬n=0:=by omega
   by_cases h2:200<n
   · go_wp2_with fail;refine HN.out.mono ?_;rintro e w2 ⟨y,rfl,hy,hd2⟩;have HD3:=zh (HD2.out.trans hd2);clear hd2;go_wp2_with fail;obtain⟨z,hz1,hz2⟩:=zIA ((x:Int)*256+y) n (by omega);rw[hz1];go_ret;exact⟨z,rfl,.inl hz2,HD3.out⟩
   · go_wp2_with fail;obtain⟨z,hz1,hz2⟩:=zIA (x:Int) n (by omega);rw[hz1];go_ret;exact⟨z,rfl,.inl hz2,HD1.out⟩
theorem wU (p K:Nat) (n:Int) (w:World) (h:SrcR w p K) (hK:K≤1099511627775) (hn:n≤4294967296) :
 Calls Tryz.prog 40 #[.pointer (some ⟨p,0,none⟩),.int .i64 n] w fun e w'=>∃b:Bool,e=.returned (.bool b)∧Drawn p (K+2) w w':=by
 have HK1:=zh (xG p K n w h hK hn);clear h;go_enter Tryz.func40,Tryz.ntmps40;go_wp2_with fail;refine HK1.out.mono ?_;rintro e w1 ⟨x,rfl,_,hd1⟩;have HD1:=zh hd1;clear hd1;go_wp2_with fail;go_ret;exact⟨_,rfl,HD1.out⟩
theorem SrcR.ne {w:World} {p K b o:Nat} {v:Value} (h:SrcR w p K) (hv:w.cell? ⟨b,o,none⟩=some v) (h1:(∀A n c,v≠.slice A n c)∧(∀z,v≠.int .i64 z)∧(∀z,v≠.int .u64 z)):b≠p:=by
 rintro rfl;obtain⟨A,n,c,a,s,hB,_⟩:=h;have h2:=(hB.cell o).symm.trans hv;rcases o with _ | _ | _ | o
 · exact h1.1 _ _ _ (by simpa using h2.symm)
 · exact h1.2.1 _ (by simpa using h2.symm)
 · exact h1.2.2 _ (by simpa using h2.symm)
 · simp at h2
theorem SrcR.strs {w w':World} {p K K' n:Nat} {A:Option Addr} {ss:List ByteArray} (h:SrcR w p K) (hs:Strs w w.heap.size A n ss) (hd:Drawn p K' w w'):Strs w' w'.heap.size A n ss:=by
 refine⟨hs.1,fun hn=>?_⟩;obtain⟨b,o,e,hb,hc⟩:=hs.2 hn;have hne:b≠p:=h.ne (hc 0 hn) ⟨fun _ _ _=>by simp,fun _=>by simp,fun _=>by simp⟩;exact⟨b,o,e,Nat.lt_of_lt_of_le hb hd.chg.size,fun j hj=>(World.cell?_of_block (w:=w) (hd.chg.block b hb hne)).trans (hc j hj)⟩
theorem zH0 (p K:Nat) (A:Option Addr) (n c:Nat) (ss:List ByteArray) (w:World) (h:SrcR w p K) (hK:K≤1099511627775) (hs:Strs w w.heap.size A n ss) (hn:0<n) (hn2:n≤1048576) :
 Calls Tryz.prog 96 #[.pointer (some ⟨p,0,none⟩),.slice A n c] w fun e w'=>∃s∈ss,e=.returned (.string s)∧Drawn p (K+2) w w':=by
 have HK1:=zh (xG p K n w h hK (by omega));have HS:=zh (fun w' (hd:Drawn p (K+2) w w')=>h.strs hs hd);have HL:Hid (ss.length=n):=hs.1;clear h hs;go_enter Tryz.func96,Tryz.ntmps96;go_wp2_with fail;refine HK1.out.mono ?_;rintro e w1 ⟨x,rfl,hx,hd1⟩;have hxn:x<n:=by omega
 obtain⟨b,o,rfl,hb,hc⟩:=(HS.out w1 hd1).2 hn;have hcx:=hc x hxn;have HM:Hid (ss.getD x ByteArray.empty∈ss):=mem_of_getD ss x _ (by rw[HL.out];exact hxn);have HD1:=zh hd1;clear hd1 hc hx HS;generalize ss.getD x ByteArray.empty=t at *;go_wp2_with fail;go_ret;exact⟨t,HM.out,rfl,HD1.out⟩
theorem uS (p K:Nat) (b n c:Nat) (zs:List Int) (w:World) (h:SrcR w p K) (hK:K≤1099511627775) (hs:Ints w w.heap.size (some ⟨b,0,none⟩) n zs) (hbp:b≠p) (hn:0<n) (hn2:n≤1048576) :
 Calls Tryz.prog 99 #[.pointer (some ⟨p,0,none⟩),.slice (some ⟨b,0,none⟩) n c] w fun e w'=>∃z∈zs,e=.returned (.int .i64 z)∧Drawn p (K+2) w w':=by
 have HK1:=zh (xG p K n w h hK (by omega));have HS:Hid (∀w',Drawn p (K+2) w w'→Ints w' w'.heap.size (some ⟨b,0,none⟩) n zs):=fun w' hd=>by refine⟨hs.1,fun hn=>?_⟩;obtain⟨b',o,e,hb,hc⟩:=hs.2 hn;cases e;exact⟨b,0,rfl,Nat.lt_of_lt_of_le hb hd.chg.size,fun j hj=>(World.cell?_of_block (w:=w) (hd.chg.block b hb hbp)).trans (hc j hj)⟩
 have HL:Hid (zs.length=n):=hs.1;clear h hs;go_enter Tryz.func99,Tryz.ntmps99;go_wp2_with fail;refine HK1.out.mono ?_;rintro e w1 ⟨x,rfl,hx,hd1⟩;have hxn:x<n:=by omega
 obtain⟨b',o,e,hb,hc⟩:=(HS.out w1 hd1).2 hn;cases e;have hcx:=hc x hxn;have HM:Hid (zs.getD x 0∈zs):=mem_of_getD zs x _ (by rw[HL.out];exact hxn);have HD1:=zh hd1;clear hd1 hc hx HS;rw[Nat.zero_add]at hcx;generalize zs.getD x 0=t at *;go_wp2_with fail;go_ret;exact⟨t,HM.out,rfl,HD1.out⟩
theorem _root_.Go.Proofs.YtfpcjhajjejpdaaGreatDoor.Own.Chg.fresh {P Q:Nat→Prop} {a b c:World} (h:Chg P a b) (k:Chg Q b c) (hQ:∀g,Q g→a.heap.size≤g):Chg P a c :=
 ⟨k.os.trans h.os,k.tape.trans h.tape,k.output.trans h.output,Nat.le_trans h.size k.size,fun i hi' hr=>(k.block i (Nat.lt_of_lt_of_le hi' h.size) (fun hq=>by have:=hQ i hq;omega)).trans (h.block i hi' hr)⟩
theorem SrcR.chg {P:Nat→Prop} {w w':World} {p K:Nat} (h:SrcR w p K) (k:Chg P w w') (hP:∀g,P g→p<g):SrcR w' p K:=by
 obtain⟨A,n,c,a,s,hB,hY,h1,h2,h3⟩:=h;exact⟨A,n,c,a,s,Own.Blk.chg hB k (fun hp=>Nat.lt_irrefl _ (hP _ hp)),hY.later (fun i hi=>k.block i (by have:=hB.lt;omega) (fun hp=>by have:=hP _ hp;omega)),h1,h2,h3⟩
theorem Drawn.pre {p K:Nat} {a b c:World} (hb:Below a.heap.size a b) (h:Drawn p K b c):Drawn p K a c:=⟨h.src,(Chg.of_below hb).trans h.chg⟩
theorem Drawn.grown {p K:Nat} {a b c:World} {row:Option Nat} (h:Drawn p K a b) (hg:b.grownBy c row) (hr:∀g,row=some g→a.heap.size≤g) (hp:p<a.heap.size):Drawn p K a c :=
 ⟨h.src.chg (Chg.of_grown (P:=fun g=>a.heap.size≤g) hg hr) (fun g hg'=>Nat.lt_of_lt_of_le hp hg'),h.chg.fresh (Chg.of_grown (P:=fun g=>a.heap.size≤g) hg hr) (fun g hg'=>hg')⟩
theorem Drawn.lt {p K:Nat} {a b:World} (h:Drawn p K a b):p<b.heap.size:=h.src.lt
theorem SubO.drawn {w w':World} {p K K' base:Nat} {v:Value} {ss:List ByteArray} (h:SubO w base v ss) (hs:SrcR w p K) (hd:Drawn p K' w w'):SubO w' base v ss :=
 own_chg h hd.chg (hs.not_own h (by decide))
theorem Blk.drawn {w w':World} {p K g t:Nat} {cs:Array Value} (h:Blk w g t cs) (hd:Drawn p K w w') (hp:g≠p):Blk w' g t cs:=Own.Blk.chg h hd.chg hp
theorem vH (w:World) (t:TypeId) (ss:List ByteArray) (cs:Array Value) (h:cs=xY ss):Strs (w.alloc (.cells cs t)) (w.alloc (.cells cs t)).heap.size (some ⟨w.heap.size,0,none⟩) ss.length ss:=by
 subst h;exact(Strs.made w t ss).more (by simp)
theorem zBe (w:World) (t:TypeId) (zs:List Int) (cs:Array Value) (h:cs=(zs.map (Value.int .i64)).toArray):Ints (w.alloc (.cells cs t)) (w.alloc (.cells cs t)).heap.size (some ⟨w.heap.size,0,none⟩) zs.length zs:=by
 subst h;refine⟨rfl,fun hn=>⟨w.heap.size,0,rfl,by simp,fun j hj=>?_⟩⟩;refine(Blk.cell (t:=t) (heap_alloc_new w _) _).trans ?_;simp[List.getD_eq_getElem?_getD,List.getElem?_eq_getElem hj]
theorem SrcR.reads_conds {w w':World} {p K K' n:Nat} {A:Option Addr} {fs:List CondD} (h:SrcR w p K) (hs:Conds w w.heap.size A n fs) (hd:Drawn p K' w w'):Conds w' w'.heap.size A n fs:=by
 refine⟨hs.1,fun hn=>?_⟩;obtain⟨b,o,e,hb,hc⟩:=hs.2 hn;have hne:b≠p:=by obtain⟨c0,c1,c2,h0,_,_,hr⟩:=hc 0 hn;refine h.ne h0 ?_;rw[hr.1];exact⟨fun _ _ _=>by simp,fun _=>by simp,fun _=>by simp⟩
 refine⟨b,o,e,Nat.lt_of_lt_of_le hb hd.chg.size,fun j hj=>?_⟩;obtain⟨c0,c1,c2,h0,h1,h2,e0,e1,e2⟩:=hc j hj;have hk:∀i,w'.cell? ⟨b,i,none⟩=w.cell? ⟨b,i,none⟩:=fun i=>World.cell?_of_block (w:=w) (hd.chg.block b hb hne);exact⟨c0,c1,c2,(hk _).trans h0,(hk _).trans h1,(hk _).trans h2,e0,e1,e2⟩
theorem SrcR.reads_table {w w':World} {p K K':Nat} {c0 c1 c2 c3:Value} {d:TableD} (h:SrcR w p K) (hs:TableR w w.heap.size c0 c1 c2 c3 d) (hd:Drawn p K' w w'):TableR w' w'.heap.size c0 c1 c2 c3 d:=by
 obtain⟨e0,e1,⟨A2,n2,p2,e2,s2,k2⟩,⟨A3,n3,p3,e3,s3,k3⟩⟩:=hs;exact⟨e0,e1,⟨A2,n2,p2,e2,h.strs s2 hd,k2⟩,⟨A3,n3,p3,e3,h.strs s3 hd,k3⟩⟩
theorem SrcR.reads_query {w w':World} {p K K':Nat} {c0 c1 c2 c3 c4 c5:Value} {d:QueryD} (h:SrcR w p K) (hs:QueryR w w.heap.size c0 c1 c2 c3 c4 c5 d) (hd:Drawn p K' w w'):QueryR w' w'.heap.size c0 c1 c2 c3 c4 c5 d:=by
 obtain⟨e0,⟨A1,n1,p1,e1,s1,k1⟩,⟨A2,n2,p2,e2,s2,k2⟩,e3,e4,e5⟩:=hs;exact⟨e0,⟨A1,n1,p1,e1,h.strs s1 hd,k1⟩,⟨A2,n2,p2,e2,h.reads_conds s2 hd,k2⟩,e3,e4,e5⟩
end Go.Proofs.YtfpcjhajjejpdaaGreatDoor
namespace Go.Proofs.YtfpcjhajjejpdaaGreatDoor
open Go.RowKit
set_option linter.unusedVariables false
def rS:ByteArray:=⟨#[114]⟩
def iS:ByteArray:=⟨#[105]⟩
def zEl (g:ByteArray) (r:List ByteArray):ChgD:=⟨1,g,[rS,r.getD 0 ByteArray.empty],vK r⟩
def cellAt (cols r:List ByteArray) (c:ByteArray):ByteArray:=r.getD (xA cols c).toNat ByteArray.empty
def zAA (kind:Int) (g:ByteArray) (cols r:List ByteArray) (c:ByteArray):List ChgD :=
 if cellAt cols r c=⟨#[]⟩ then [] else [⟨kind,g,[iS,c,cellAt cols r c,r.getD 0 ByteArray.empty],⟨#[]⟩⟩]
def zBG (kind:Int) (b:TableD) (r:List ByteArray):List ChgD:=b.idx.flatMap (zAA kind b.glob b.cols r)
def zJN (fs:List NodeD) (b:TableD) (r:List ByteArray):Int × List ChgD :=
 if (uA fs&&(xP b&&vT b.cols r))=true then
  (if 0≤atI (vA b.glob fs) (r.getD 0 ByteArray.empty) then (5,[]) else if 24≤(vA b.glob fs).length then (4,[]) else (0,zEl b.glob r::zBG 1 b r))
 else (1,[])
theorem zMi {r:List ByteArray} (h:r.length≤1):vK r=⟨#[]⟩:=by
 unfold vK;rw[List.drop_of_length_le h];rfl
theorem zMh {r:List ByteArray} (h:1<r.length):vK (r.take 2)=r.getD 1 ByteArray.empty:=by
 match r,h with
 | _::y::t,_=>unfold vK;simp[Lib.join]
theorem zLh {r:List ByteArray} {k:Nat} (h1:1<k) (h:k<r.length):vK (r.take (k+1))=(vK (r.take k)++⟨#[94]⟩)++r.getD k ByteArray.empty:=by
 have e:(r.take (k+1)).drop 1=(r.take k).drop 1++[r.getD k ByteArray.empty]:=by rw[List.take_succ_eq_append_getElem h,List.drop_append_of_le_length (by rw[List.length_take];omega),List.getD_eq_getElem?_getD,List.getElem?_eq_getElem h,Option.getD_some]
 have hj:∀(l:List (List UInt8)) (x:List UInt8),l≠[]→Lib.join (l++[x]) [94]=Lib.join l [94]++[94]++x:=by
  intro l
  induction l with
  | nil=>intro x h;exact absurd rfl h
  | cons a t ih =>
    intro x _
    match t,ih with
    | [],_=>simp[Lib.join]
    | b::t,ih=>have h2:=ih x (by simp);rw[List.cons_append,List.cons_append,vU,vU,←List.cons_append,h2];simp
 unfold vK
 rw[e,List.map_append,List.map_singleton,hj _ _ (by
  intro e2;have:=congrArg List.length e2;simp only[List.length_map,List.length_drop,List.length_take,List.length_nil]at this
  omega)]
 apply uV;simp[wE,ByteArray.data_append]
theorem OwnL.app {α:Type} [Inhabited α] {K:Own.Kind α} {w w':World} {base t:Nat} {v v1 u:Value} {fs gs:List α} {vs us:List Value} (h:Own.OwnL K w base t v fs vs) (k:Own.OwnL K w base t u gs us) (hap:∀a∈vs,∀b∈us,Own.apart a b)
 (hrow:w'.ownsRow base t K.size v1 (fs.length+gs.length) (Own.flat K fs vs++Own.flat K gs us)) (hg:w.grownBy w' v.ownBlock) (ht:9≠t):Own.OwnL K w' base t v1 (fs++gs) (vs++us):=by
 have hvl:=h.len;have hul:=k.len;refine⟨by simp[hvl,hul],?_,fun j hj=>?_,?_⟩
 · rw[List.length_append,Own.flat_append K _ _ _ _ hvl];exact hrow
 · rw[List.length_append]at hj;by_cases e:j<fs.length
   · rw[List.getD_eq_getElem?_getD,List.getElem?_append_left (by omega),←List.getD_eq_getElem?_getD,List.getD_eq_getElem?_getD (l:=fs++gs),List.getElem?_append_left e,←List.getD_eq_getElem?_getD];exact Own.kept_apart (h.subs j e) hg (Own.apart_types (h.subs j e) h.row ht)
   · rw[List.getD_eq_getElem?_getD,List.getElem?_append_right (by omega),←List.getD_eq_getElem?_getD,List.getD_eq_getElem?_getD (l:=fs++gs),List.getElem?_append_right (by omega),←List.getD_eq_getElem?_getD,hvl];exact Own.kept_apart (k.subs _ (by omega)) hg (Own.apart_types (k.subs _ (by omega)) h.row ht)
 · rw[List.pairwise_append];exact⟨h.aprt,k.aprt,hap⟩
theorem _root_.Go.Proofs.YtfpcjhajjejpdaaGreatDoor.Own.SubO.setBlk {w:World} {base g tp i:Nat} {v u:Value} {ss:List ByteArray} {cs:Array Value} (h:Own.SubO w base v ss) (hB:Blk w g tp cs) (h2:9≠tp):Own.SubO (w.setCell ⟨g,i,none⟩ u) base v ss :=
 World.ownsRow.kept h (Own.grown_set _ _ _ _) (.inr (Own.own_blk_ne h hB h2))
theorem zIJ {w:World} {base:Nat} {d:ChgD} {v:Value} (hs:Own.SubO w base v d.subs) (hb:base≤w.heap.size):Own.OwnL zDh (w.alloc (.cells #[.int .i64 d.kind,.string d.name,v,.string d.val] 88)) base 88 (.slice (some ⟨w.heap.size,0,none⟩) 1 1) [d] [v]:=by
 refine⟨rfl,?_,fun j hj=>?_,List.pairwise_singleton _ _⟩
 · have h:=World.ownsRow_lit (base:=base) (e:=88) (size:=4) w #[.int .i64 d.kind,.string d.name,v,.string d.val] 1 hb (by unfold maxLen;omega) rfl;exact h
 · have hj:j=0:=by simpa using hj
   subst hj;exact Own.own_later hs (Below.new _ _)
theorem zKr {w:World} {base:Nat} (ss:List ByteArray) (cs:Array Value) (hb:base≤w.heap.size) (hm:ss.length≤1048576) (h:cs=xY ss):Own.SubO (w.alloc (.cells cs 9)) base (.slice (some ⟨w.heap.size,0,none⟩) ss.length ss.length) ss:=by
 subst h;exact Own.sub_of_blk (heap_alloc_new w _) hb (by unfold maxLen;omega)
theorem zMr (kind:Int) (g:ByteArray) (cols r:List ByteArray) (c:ByteArray):(zAA kind g cols r c).length≤1:=by
 unfold zAA;split <;> simp
end Go.Proofs.YtfpcjhajjejpdaaGreatDoor
namespace Go.Proofs.YtfpcjhajjejpdaaGreatDoor
open Go.RowKit
def zAz (g col val:ByteArray) (d:NodeD):Bool:=decide (d.name=g)&&(decide (d.subs.length=4)&&(decide (d.subs.getD 0 ByteArray.empty=⟨#[105]⟩)&&(decide (d.subs.getD 1 ByteArray.empty=col)&&decide (d.subs.getD 2 ByteArray.empty=val))))
def wI (d:NodeD):ByteArray:=d.subs.getD 3 ByteArray.empty
def yL (g col val:ByteArray) (fs:List NodeD):List ByteArray:=(fs.filter (zAz g col val)).map wI
set_option maxRecDepth 100000 in
theorem zIe (A:Option Addr) (n c:Nat) (b0 b1 b2 b3:Value) (fs:List NodeD) (b:TableD) (col val:ByteArray) (w:World) (h:Nodes w w.heap.size A n fs) (hb:TableR w w.heap.size b0 b1 b2 b3 b) (hs:vC fs) :
 Calls Tryz.prog 134 #[.agg #[.slice A n c],.agg #[b0,b1,b2,b3],.string col,.string val] w fun e w'=>∃v,e=.returned v∧Own.SubO w' w.heap.size v (yL b.glob col val fs)∧Below w.heap.size w w':=by
 obtain⟨i0,hi,hz0,hz1,hz2⟩:=info_parts zAO;obtain⟨rfl,rfl,⟨A2,n2,p2,rfl,s2,k2⟩,⟨A3,n3,p3,rfl,s3,k3⟩⟩:=hb;have Hh:=zh h;have Hlen:=zh h.1;have hn:n≤1048576:=by rw[←h.1];exact hs.1
 clear h hs s2 s3;have HP:Hid (∀d,zAz b.glob col val d=(decide (d.name=b.glob)&&(decide (d.subs.length=4)&&(decide (d.subs.getD 0 ByteArray.empty=⟨#[105]⟩)&&(decide (d.subs.getD 1 ByteArray.empty=col)&&decide (d.subs.getD 2 ByteArray.empty=val)))))):=fun _=>rfl;have HRN:Hid (yL b.glob col val fs=(fs.filter (zAz b.glob col val)).map wI):=rfl;generalize yL b.glob col val fs=OUT at *;generalize zAz b.glob col val=P at *;generalize b.glob=gl at *;generalize b.name=nm at *;go_enter Tryz.func134,Tryz.ntmps134;go_wp2_with fail;go_loopw [9,10] (fun v i wr=>∃(k:Nat),k≤n∧i=.int .i64 k∧wr.ownsRow (w.heap.size+1+1) 9 1 v (((fs.take k).filter P).map wI).length ((((fs.take k).filter P).map wI).map Value.string)∧Below (w.heap.size+1+1) ((w.alloc (.cells #[.slice A n c] 26)).alloc (.cells #[.string nm,.string gl,.slice A2 n2 p2,.slice A3 n3 p3] 29)) wr) (fun _ i _=>n-(intOf i).toNat);case atStart=>exact⟨0,Nat.zero_le _,rfl,by simpa using World.ownsRow_lit (e:=9) (size:=1) ((w.alloc (.cells #[.slice A n c] 26)).alloc (.cells #[.string nm,.string gl,.slice A2 n2 p2,.slice A3 n3 p3] 29)) #[] 0 (Nat.le_refl _) (by omega) rfl,(Below.refl _ _).alloc (by first | exact Nat.le_refl _ | (simp;done) | (simp;omega)) _⟩
 case round =>
  obtain⟨k,hk,rfl,hown,hb⟩:=hrel;have px:=(Blk.later (yC w _ _) hb (by omega)).cell;have py:=(Blk.later (vB w _ _) hb (by omega)).cell;have hz3:w.heap.size+1<wr.heap.size:=by have:=hb.size;simp at this;omega
  have HBk:=zh hb;have HBw:=zh (((Below.new w _).later (Below.new _ _)).trans (hb.mono (by omega)));have hml:=zAC P fs k;have hml2:(((fs.take k).filter P).map wI).length≤k:=by rw[List.length_map];exact hml
  have HO:=zh hown;clear hb hown hml;by_cases hlt:k<n
  · obtain⟨bb,o,rfl,hbB,hc'⟩:=(Hh.out.later HBw.out).2 (by omega);obtain⟨d0,d1,d2,j0,j1,j2,hrl⟩:=hc' k hlt;clear hc';have hl1:k<fs.length:=by rw[Hlen.out];exact hlt
    have HTS:=zh (zR0 P fs k hl1);have HPd:=zh (HP.out (fs.getD k default));have HK:Hid (wI (fs.getD k default)=(fs.getD k default).subs.getD 3 ByteArray.empty):=rfl;clear hl1;generalize fs.getD k default=d at *;obtain⟨e0,⟨A1,n1,cap1,e1,hs1,hcap1⟩,e2⟩:=hrl;subst e0 e1 e2;have HL1:=zh hs1.1;have HC1:=zh hs1.2;clear hs1;generalize hY:((fs.take k).filter P).map wI=ys at *;have HY:=zh hY;clear hY;by_cases hnm:d.name=gl
    case neg =>
     have HE:Hid (((fs.take (k+1)).filter P).map wI=ys):=by unfold Hid;rw[HTS.out,if_neg (by rw[HPd.out];rw[decide_eq_false hnm];simp),HY.out]
     have hbe:=zB0 hnm;clear hnm;go_wp2_with fail;go_roundw;case rel=>refine⟨k+1,by omega,by go_num,?_,HBk.out.alloc (by omega) _⟩;rw[HE.out];exact Own.own_later HO.out (Below.new _ _)
     case measure=>simp[intOf];omega
    subst hnm;by_cases hn4:n1=4
    case neg =>
     have HE:Hid (((fs.take (k+1)).filter P).map wI=ys):=by unfold Hid;rw[HTS.out,if_neg (by rw[HPd.out];rw[HL1.out,decide_eq_false hn4];simp),HY.out]
     have hb3:((n1:Int)==4)=false:=by rw[beq_eq_false_iff_ne];omega
     have hb4:(n1==4)=false:=by rw[beq_eq_false_iff_ne];omega
     clear hn4;go_wp2_with fail;go_roundw;case rel=>refine⟨k+1,by omega,by go_num,?_,HBk.out.alloc (by omega) _⟩;rw[HE.out];exact Own.own_later HO.out (Below.new _ _)
     case measure=>simp[intOf];omega
    subst hn4;obtain⟨sb,so,e1,hsb,hsc⟩:=HC1.out (by omega);subst e1;have h0:=hsc 0 (by omega);have h1:=hsc 1 (by omega);have h2:=hsc 2 (by omega);have h3:=hsc 3 (by omega);clear hsc HC1;rw[Nat.add_zero]at h0;generalize d.subs.getD 0 ByteArray.empty=t0 at *;generalize d.subs.getD 1 ByteArray.empty=t1 at *;generalize d.subs.getD 2 ByteArray.empty=t2 at *;generalize d.subs.getD 3 ByteArray.empty=t3 at *;by_cases hs0:t0=⟨#[105]⟩
    case neg =>
     have HE:Hid (((fs.take (k+1)).filter P).map wI=ys):=by unfold Hid;rw[HTS.out,if_neg (by rw[HPd.out];rw[decide_eq_false hs0];simp),HY.out]
     have hbe:=zB0 hs0;have hbe3:=zAh hs0;clear hs0;go_wp2_with fail;go_roundw;case rel=>refine⟨k+1,by omega,by go_num,?_,HBk.out.alloc (by omega) _⟩;rw[HE.out];exact Own.own_later HO.out (Below.new _ _)
     case measure=>simp[intOf];omega
    subst hs0;by_cases hs1:t1=col
    case neg =>
     have HE:Hid (((fs.take (k+1)).filter P).map wI=ys):=by unfold Hid;rw[HTS.out,if_neg (by rw[HPd.out];rw[decide_eq_false hs1];simp),HY.out]
     have hbe:=zB0 hs1;clear hs1;go_wp2_with fail;go_roundw;case rel=>refine⟨k+1,by omega,by go_num,?_,HBk.out.alloc (by omega) _⟩;rw[HE.out];exact Own.own_later HO.out (Below.new _ _)
     case measure=>simp[intOf];omega
    subst hs1;by_cases hs2:t2=val
    case neg =>
     have HE:Hid (((fs.take (k+1)).filter P).map wI=ys):=by unfold Hid;rw[HTS.out,if_neg (by rw[HPd.out];rw[decide_eq_false hs2];simp),HY.out]
     have hbe:=zB0 hs2;clear hs2;go_wp2_with fail;go_roundw;case rel=>refine⟨k+1,by omega,by go_num,?_,HBk.out.alloc (by omega) _⟩;rw[HE.out];exact Own.own_later HO.out (Below.new _ _)
     case measure=>simp[intOf];omega
    subst hs2;have HE:Hid (((fs.take (k+1)).filter P).map wI=ys++[t3]):=by unfold Hid;rw[HTS.out,if_pos (by rw[HPd.out,HL1.out];simp only[decide_true,Bool.and_self]),List.map_append,HY.out,List.map_singleton,HK.out]
    have hrow:Hid (∀o o',((wr.alloc o).alloc o').ownsRow (w.heap.size+1+1) 9 1 u9 ys.length (ys.map Value.string)):=fun o o'=>Own.own_later (Own.own_later HO.out (Below.new _ _)) (Below.new _ _);go_wp2_with (at_builtin;refine wpList_append_own _ rfl (.tmp 59) (.tmp 64) 27 rfl (w.heap.size+1+1) 9 i0 _ 1 16 Tryz.underlying27 hi hz0 hz1 hz2 rfl (by decide) _ ys.length _ rfl (hrow.out _ _) ⟨_,0,none⟩ 1 1 [.string t3] rfl rfl ?c1 ?c2 ?c3 ?c4 ?c5 ?_);all_goals try (first | exact wC _ #[.string t3] _ _ (by simp) | (simp[Value.oneCell'];done) | (unfold maxLen;omega) | omega)
    intro v1 w2 hown1 hg1 _;have HO3:Hid (w2.ownsRow (w.heap.size+1+1) 9 1 v1 (((fs.take (k+1)).filter P).map wI).length ((((fs.take (k+1)).filter P).map wI).map Value.string)):=by unfold Hid;rw[HE.out,List.length_append,List.length_singleton,List.map_append];exact hown1
    have HB3:=zh (((HBk.out.alloc (by omega) _).alloc (by first | omega | (simp;omega)) _).grown hg1 (by first | omega | (simp;omega)) (fun g hg'=>((hrow.out (.cells #[] 0) (.cells #[] 0)).lt g hg').1));clear hown1 hg1;go_wp2_with fail;go_roundw;case rel=>exact⟨k+1,by omega,by go_num,HO3.out,HB3.out⟩
    case measure=>simp[intOf];omega
  · obtain rfl:k=n:=by omega
    have HE:Hid (((fs.take k).filter P).map wI=OUT):=by unfold Hid;rw[HRN.out,List.take_of_length_le (by rw[Hlen.out];omega)]
    go_wp2_with fail;go_ret;have h1:=HO.out;rw[HE.out]at h1;exact⟨_,rfl,Own.own_base h1 (by omega),HBw.out⟩
end Go.Proofs.YtfpcjhajjejpdaaGreatDoor
