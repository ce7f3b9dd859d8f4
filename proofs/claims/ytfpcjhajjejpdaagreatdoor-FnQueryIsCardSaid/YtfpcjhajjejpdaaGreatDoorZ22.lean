import Derived.Test.YtfpcjhajjejpdaaGreatDoorZ21
import Derived.Test.YtfpcjhajjejpdaaGreatDoorZ17
import Derived.Test.YtfpcjhajjejpdaaGreatDoorZ15
import Derived.Test.YtfpcjhajjejpdaaGreatDoorZ19
import Derived.Test.YtfpcjhajjejpdaaGreatDoorZ20
set_option maxHeartbeats 4000000
open Go.Lib renaming hid → zh
namespace Go.Proofs.YtfpcjhajjejpdaaGreatDoor
open Go.RowKit
set_option maxRecDepth 100000 in
theorem zFF (bk rk:Nat) (b0 b1 b2 b3 r0 c0 c1 c2:Value) (b:TableD) (row:List ByteArray) (d:CondD) (j:Nat) (w:World) (htab:zU0 w) (hkb:Blk w bk 29 #[b0,b1,b2,b3]) (hkr:Blk w rk 40 #[r0]) (hb:TableR w w.heap.size b0 b1 b2 b3 b) (hr:RowR w w.heap.size r0 row) (h:CondR w w.heap.size c0 c1 c2 d)
 (hbs:b.small) (hrs:yH row) (hs:d.small) (hp:xA b.cols d.col=j) (hj:j<row.length) :
 Calls Tryz.prog 111 #[.agg #[c0,c1,c2],.pointer (some ⟨bk,0,none⟩),.pointer (some ⟨rk,0,none⟩)] w fun e w'=>e=.returned (.bool (!uP (row.getD j ByteArray.empty) d))∧Below w.heap.size w w':=by
 have HKc:=zh (fun W (hW:Below w.heap.size w W)=>zCk b0 b1 b2 b3 r0 b row d.col j W (hb.later hW) (hr.later hW) hbs hp hj);have HKt:=zh (fun W (hW:Below w.heap.size w W)=>zCt (row.getD j ByteArray.empty) c0 c1 c2 d W (yF htab hW) (h.later hW) hs (hrs.2 _ (xE row j hj)));obtain⟨rfl,rfl,⟨A2,n2,p2,rfl,s2,k2⟩,⟨A3,n3,p3,rfl,s3,k3⟩⟩:=hb;obtain⟨R0,rn,rc,rfl,hS,hrc⟩:=hr;obtain⟨rfl,rfl,rfl⟩:=h;have HB0:=zh (Below.new w (.cells #[.string d.col,.int .i64 d.op,.string d.val] 44));have HX0:=zh (zD0 (W:=w) (o:=.cells #[.string d.col,.int .i64 d.op,.string d.val] 44) rfl);have HKB:=zh hkb;have HKR:=zh hkr;obtain⟨WB,hWB⟩:∃WB,WB=w.alloc (.cells #[.string d.col,.int .i64 d.op,.string d.val] 44):=⟨_,rfl⟩;have hbk:=hkb.lt;have hrk:=hkr.lt;have HRd:Hid (∀W',Below WB.heap.size WB W'→(W'.cell? ⟨bk,0,none⟩=some (.string b.name)∧W'.cell? ⟨bk,1,none⟩=some (.string b.glob)∧W'.cell? ⟨bk,2,none⟩=some (.slice A2 n2 p2)∧W'.cell? ⟨bk,3,none⟩=some (.slice A3 n3 p3)∧W'.cell? ⟨rk,0,none⟩=some (.slice R0 rn rc)∧W'.cell? ⟨w.heap.size,0,none⟩=some (.string d.col)∧W'.cell? ⟨w.heap.size,1,none⟩=some (.int .i64 d.op)∧W'.cell? ⟨w.heap.size,2,none⟩=some (.string d.val))):=fun W' hW=>by subst hWB;have e1:=HKB.out.later (HB0.out.later hW) hbk;have e2:=HKR.out.later (HB0.out.later hW) hrk;have e3:=Blk.later HX0.out hW (by simp);exact⟨(e1.cell 0).trans rfl,(e1.cell 1).trans rfl,(e1.cell 2).trans rfl,(e1.cell 3).trans rfl,(e2.cell 0).trans rfl,(e3.cell 0).trans rfl,(e3.cell 1).trans rfl,(e3.cell 2).trans rfl⟩
 have HBB:Hid (Below w.heap.size w WB):=by subst hWB;exact HB0.out
 clear s2 s3 hS hkb hkr hbs hrs hs htab hp hj;generalize uP (row.getD j ByteArray.empty) d=y at *;generalize row.getD j ByteArray.empty=cell at *;go_enter Tryz.func111,Tryz.ntmps111;go_wp2_with fail;rw[←hWB];clear hWB HB0 HX0;obtain⟨x0,x1,x2,x3,x4,x5,x6,x7⟩:=HRd.out _ (Below.refl _ _)
 go_region_held3 (fun W'=>W'.cell? ⟨bk,0,none⟩=some (.string b.name)∧W'.cell? ⟨bk,1,none⟩=some (.string b.glob)∧W'.cell? ⟨bk,2,none⟩=some (.slice A2 n2 p2)∧W'.cell? ⟨bk,3,none⟩=some (.slice A3 n3 p3)∧W'.cell? ⟨rk,0,none⟩=some (.slice R0 rn rc)∧W'.cell? ⟨w.heap.size,0,none⟩=some (.string d.col)∧W'.cell? ⟨w.heap.size,1,none⟩=some (.int .i64 d.op)∧W'.cell? ⟨w.heap.size,2,none⟩=some (.string d.val))
  (first | exact HRd.out _ hb2 | exact HRd.out _ hb1 | exact HRd.out _ (Below.refl WB.heap.size WB).drew)
  (first
    | (go_at_call 85;refine(HKc.out _ (by exact HBB.out.drew)).mono ?_;rintro e w1 ⟨rfl,hb1'⟩;have hb1:=xC hb1';clear hb1')
    | (go_at_call 13;refine(HKt.out _ (by exact HBB.out.later hb1)).mono ?_;rintro e w2 ⟨rfl,hb2'⟩;have hb2:=hb1.later hb2';clear hb2'))
 have HB2:=zh (HBB.out.later hb2);clear hb1 hb2;go_wp2_with fail;go_ret;exact⟨rfl,HB2.out⟩
theorem zJn (cols:List ByteArray) (wh:List CondD) (row:List ByteArray):(wh.any fun c=>!uP (row.getD (xA cols c.col).toNat ByteArray.empty) c)=!vE cols wh row:=by
 unfold vE
 induction wh with
 | nil=>rfl
 | cons c r ih=>rw[List.any_cons,List.all_cons,ih];cases uP (row.getD (xA cols c.col).toNat ByteArray.empty) c <;> rfl
set_option maxRecDepth 100000 in
theorem zGq (bk qk:Nat) (b0 b1 b2 b3 c0 c1 c2 c3 c4 c5 r0:Value) (b:TableD) (d:QueryD) (row:List ByteArray) (w:World) (htab:zU0 w) (hkb:Blk w bk 29 #[b0,b1,b2,b3]) (hkq:Blk w qk 32 #[c0,c1,c2,c3,c4,c5]) (hb:TableR w w.heap.size b0 b1 b2 b3 b) (h:QueryR w w.heap.size c0 c1 c2 c3 c4 c5 d) (hr:RowR w w.heap.size r0 row)
 (hbs:b.small) (hs:d.small) (hrs:yH row) (hfit:∀c∈d.wher,0≤xA b.cols c.col) (hlen:row.length=b.cols.length) :
 Calls Tryz.prog 109 #[.agg #[r0],.pointer (some ⟨qk,0,none⟩),.pointer (some ⟨bk,0,none⟩)] w fun e w'=>e=.returned (.bool (!vE b.cols d.wher row))∧Below w.heap.size w w':=by
 have HR:=zh (zJn b.cols d.wher row);obtain⟨rfl,⟨B1,m1,q1,rfl,t1,l1⟩,⟨B2,m2,q2,rfl,t2,l2⟩,rfl,rfl,rfl⟩:=h;have hm2:m2≤1048576:=by rw[←t2.1];exact hs.2.2.1.1
 obtain⟨R0,rn,rc,rfl,hS,hrc⟩:=hr;have HKB:=zh hkb;have HTB:=zh hb;have HP:Hid (zED 111 #[.pointer (some ⟨bk,0,none⟩),.pointer (some ⟨w.heap.size,0,none⟩)] (fun c=>!uP (row.getD (xA b.cols c.col).toNat ByteArray.empty) c) d.wher (w.alloc (.cells #[.slice R0 rn rc] 40))):=fun c hc c0 c1 c2 W hW hcr=>by have h1:=hfit c hc;have h2:=(xD b.cols c.col).2;have hBw:Below w.heap.size w W:=(Below.new w _).later hW;exact zFF bk w.heap.size b0 b1 b2 b3 (.slice R0 rn rc) c0 c1 c2 b row c (xA b.cols c.col).toNat W (yF htab hBw) (HKB.out.later hBw HKB.out.lt) (Blk.later (zD0 rfl) hW (by simp)) (HTB.out.later hBw) (RowR.later ⟨R0,rn,rc,rfl,hS,hrc⟩ hBw) hcr hbs hrs (hs.2.2.1.2 c hc) (by omega) (by rw[hlen];omega)
 have HK:=zh (xX 111 #[.pointer (some ⟨bk,0,none⟩),.pointer (some ⟨w.heap.size,0,none⟩)] (fun c=>!uP (row.getD (xA b.cols c.col).toNat ByteArray.empty) c) B2 m2 q2 d.wher (w.alloc (.cells #[.slice R0 rn rc] 40)) (t2.later (Below.new _ _)) hm2 (enters_of Tryz.func111 (by kernel_rfl) rfl) HP.out);rw[HR.out]at HK;have x2:=hkq.cell 2;simp at x2;have hq:=hkq.lt;clear hkb hkq hb t1 t2 hS hbs hs hrs hfit htab HP;generalize vE b.cols d.wher row=y at *;go_enter Tryz.func109,Tryz.ntmps109;go_wp2_with fail;refine HK.out.mono ?_;rintro e w1 ⟨rfl,hb1⟩;have HB:=zh ((Below.new w _).later hb1);clear hb1;go_wp2_with fail;go_ret;exact⟨rfl,HB.out⟩
end Go.Proofs.YtfpcjhajjejpdaaGreatDoor
namespace Go.Proofs.YtfpcjhajjejpdaaGreatDoor
open Go.RowKit
theorem zLs (a b:ByteArray):-1≤uU a b∧uU a b≤1:=by
 unfold uU;split
 · unfold zEp;split
   · omega
   · split <;> omega
 · split
   · omega
   · split
     · omega
     · unfold zAS;split
       · omega
       · split <;> omega
theorem zLr (a b:ByteArray):decide (0<uU a b)=yB b a:=by
 cases h:yB b a
 · rw[decide_eq_false_iff_not];intro h1;have hne:a≠b:=fun e=>by rw[(vR a b).2 e]at h1;omega
   rcases zAN a b hne with h2 | h2
   · rw[←zAL,decide_eq_true_iff]at h2;omega
   · rw[h]at h2;cases h2
 · rw[decide_eq_true_iff];rcases Int.lt_trichotomy (uU a b) 0 with h1 | h1 | h1
   · have h2:yB a b=true:=by rw[←zAL];simpa using h1
     have:=wT _ _ _ h h2;rw[zAb]at this;cases this
   · rw[(vR a b).1 h1,zAb]at h;cases h
   · exact h1
def zIr (desc:Bool) (kk:Nat) (x y:List ByteArray):Int:=if desc=true then -(uU (x.getD kk ByteArray.empty) (y.getD kk ByteArray.empty)) else uU (x.getD kk ByteArray.empty) (y.getD kk ByteArray.empty)
theorem zLu (desc:Bool) (kk:Nat) (x y:List ByteArray):decide (zIr desc kk x y<0)=ltK desc kk x y:=by
 unfold zIr ltK;cases desc
 · rw[if_neg (by simp),if_neg (by simp),zAL]
 · rw[if_pos rfl,if_pos rfl,←zLr,Bool.eq_iff_iff];simp
theorem zEx (a b c:ByteArray) (h1:yB a b=false) (h2:yB b c=false):yB a c=false:=by
 cases h:yB a c
 · rfl
 · by_cases e:b=c
   · subst e;rw[h1]at h;cases h
   · rcases zAN b c e with h3 | h3
     · rw[h2]at h3;cases h3
     · have:=wT _ _ _ h h3;rw[h1]at this;cases this
theorem zGz (desc:Bool) (kk:Nat):Stab.Weak (ltK desc kk):=by
 cases desc
 · exact⟨fun a=>by simp[ltK,zAb],fun a b c h1 h2=>by simp[ltK]at h1 h2 ⊢;exact wT _ _ _ h1 h2,fun a b c h1 h2=>by simp[ltK]at h1 h2 ⊢;exact zEx _ _ _ h1 h2⟩
 · exact⟨fun a=>by simp[ltK,zAb],fun a b c h1 h2=>by simp[ltK]at h1 h2 ⊢;exact wT _ _ _ h2 h1,fun a b c h1 h2=>by simp[ltK]at h1 h2 ⊢;exact zEx _ _ _ h2 h1⟩
end Go.Proofs.YtfpcjhajjejpdaaGreatDoor
namespace Go.Proofs.YtfpcjhajjejpdaaGreatDoor
open Go.RowKit
set_option linter.unusedVariables false
theorem uV {w W:World} {base n:Nat} {v:Value} {rs:List (List ByteArray)} {cs:List Value} (h:W.ownsRow base 40 1 v n cs) (hn:rs.length=n) (hc:CellsG 1 (uT w w.heap.size) rs cs) (hb:Below w.heap.size w W):∃A cap,v=.slice A n cap∧n≤cap∧RowsRd W W.heap.size A n rs:=by
 obtain⟨A,cap,rfl,hcap,_,hA⟩:=Own.own_slice h;refine⟨A,cap,rfl,hcap,hn,fun hp=>?_⟩;obtain⟨g,rfl,hg,_⟩:=hA hp;refine⟨g,0,rfl,hg,fun j hj=>?_⟩;obtain⟨c,hl,⟨v,rfl,hr⟩,hx⟩:=CellsG.at j hc (by omega);refine⟨v,?_,hr.later hb⟩;rw[Nat.zero_add];exact Own.own_cell h j v (by omega) (by simpa using hx 0 (by omega))
theorem zKt {w:World} {B:Nat} (c:List Value) (d:List ByteArray) (h:uT w B c d):∀u∈c,u.oneCell'=true:=by
 obtain⟨_,rfl,A,n,cap,rfl,_⟩:=h;intro u hu;rw[List.mem_singleton.1 hu];rfl
theorem zHK {w:World} {B:Nat} {A:Option Addr} {n:Nat} {rs:List (List ByteArray)} (h:RowsRd w B A n rs):∃cs,CellsG 1 (uT w B) rs cs∧Reads w B 1 A n cs:=by
 obtain⟨hl,h2⟩:=h;rcases Nat.eq_zero_or_pos n with h0 | h0
 · subst h0;have:rs=[]:=List.eq_nil_of_length_eq_zero hl;subst this;exact⟨[],rfl,rfl,fun h=>absurd h (by omega)⟩
 · obtain⟨b,o,rfl,hb,hc⟩:=h2 h0
   obtain⟨cs,h3,h4⟩:=zAM (R:=uT w B) (sz:=1) (w:=w) b rs o (fun j hj=>by
    obtain⟨v,e0,hr⟩:=hc j (by omega);refine⟨[v],rfl,⟨v,rfl,hr⟩,fun t ht=>?_⟩
    match t,ht with
    | 0,_=>rw[Nat.mul_one];exact e0)
   exact⟨cs,h3,by rw[h3.len,hl],fun _=>⟨_,rfl,hb,fun j u hu=>by rw[zHq];exact h4 j u hu⟩⟩
theorem CellsG.mapI {w:World} {B:Nat}:∀(l:List uM),(∀x∈l,RowR w B x.1 x.2)→CellsG 1 (uT w B) (l.map Prod.snd) (l.map Prod.fst)
 | [],_=>rfl
 | x::r,h=>⟨[x.1],r.map Prod.fst,rfl,rfl,⟨x.1,rfl,h x (by simp)⟩,CellsG.mapI r (fun y hy=>h y (List.mem_cons_of_mem _ hy))⟩
def xV (rs:List (List ByteArray)) (cs:List Value):Nat→uM:=fun t=>(cs.getD t (.slice none 0 0),rs.getD t [])
theorem zJF (rs:List (List ByteArray)) (cs:List Value) {n:Nat} (h:cs.length=n):(Stab.seg (xV rs cs) 0 n).map Prod.fst=cs:=by
 apply List.ext_getElem?;intro i;rw[List.getElem?_map,Stab.seg_at];by_cases hi:i<n
 · rw[if_pos (by omega),Nat.zero_add,List.getElem?_eq_getElem (by omega)];simp[xV,List.getD_eq_getElem?_getD,List.getElem?_eq_getElem (show i<cs.length by omega)]
 · rw[if_neg (by omega),List.getElem?_eq_none (by omega)];rfl
theorem zJE (rs:List (List ByteArray)) (cs:List Value) {n:Nat} (h:rs.length=n):(Stab.seg (xV rs cs) 0 n).map Prod.snd=rs:=by
 apply List.ext_getElem?;intro i;rw[List.getElem?_map,Stab.seg_at];by_cases hi:i<n
 · rw[if_pos (by omega),Nat.zero_add,List.getElem?_eq_getElem (show i<rs.length by omega)];simp[xV,List.getD_eq_getElem?_getD,List.getElem?_eq_getElem (show i<rs.length by omega)]
 · rw[if_neg (by omega),List.getElem?_eq_none (by omega)];rfl
theorem zIl {w0:World} {P:List ByteArray→Prop} {rs:List (List ByteArray)} {cs:List Value} (hc:CellsG 1 (uT w0 w0.heap.size) rs cs) (hP:∀r∈rs,P r):GoodR w0 P rs.length (xV rs cs):=by
 intro t ht;obtain⟨c,hl,⟨v,rfl,hr⟩,hx⟩:=CellsG.at t hc ht;have e:cs[t]?=some v:=by simpa using hx 0 (by omega)
 have e1:(xV rs cs t).1=v:=by simp[xV,List.getD_eq_getElem?_getD,e]
 have e2:(xV rs cs t).2=rs.getD t default:=rfl;rw[e1,e2];exact⟨hP _ (wB rs t ht),hr⟩
theorem zGT {w0 w:World} {P:List ByteArray→Prop} {rs:List (List ByteArray)} {cs:List Value} {g cap:Nat} (h:w.ownsRow w0.heap.size 40 1 (.slice (some ⟨g,0,none⟩) rs.length cap) rs.length cs) (hc:CellsG 1 (uT w0 w0.heap.size) rs cs) (hP:∀r∈rs,P r) (hb:Below w0.heap.size w0 w):SrtSt w0 P g rs.length cap w (xV rs cs):=by
 refine⟨?_,zIl hc hP,hb⟩;unfold SrtR;rw[zJF rs cs (by rw[hc.len];omega)];exact h
theorem zJG {w0 w:World} {P:List ByteArray→Prop} {g n cap:Nat} {d:Nat→uM} (h:SrtSt w0 P g n cap w d):w.ownsRow w0.heap.size 40 1 (.slice (some ⟨g,0,none⟩) n cap) n ((Stab.seg d 0 n).map Prod.fst)∧CellsG 1 (uT w0 w0.heap.size) ((Stab.seg d 0 n).map Prod.snd) ((Stab.seg d 0 n).map Prod.fst) :=
 ⟨h.row,CellsG.mapI _ fun x hx=>by
   obtain⟨t,h1,h2,rfl⟩:=Stab.mem_seg.1 hx
   exact(h.good t h2).2⟩
theorem zFG (lt:List ByteArray→List ByteArray→Bool):∀(xs ys:List uM),(Stab.mrg (ltI lt) xs ys).map Prod.snd=Stab.mrg lt (xs.map Prod.snd) (ys.map Prod.snd)
 | [],ys=>by simp[Stab.mrg_nil_left]
 | x::xs,[]=>by simp[Stab.mrg_nil_right]
 | x::xs,y::ys=>by
   have e1:=zFG lt (x::xs) ys;have e2:=zFG lt xs (y::ys);rw[Stab.mrg_cons,List.map_cons,List.map_cons,Stab.mrg_cons];have e:ltI lt y x=lt y.2 x.2:=rfl;rw[e];split
   · rw[List.map_cons,e1];rfl
   · rw[List.map_cons,e2];rfl
termination_by xs ys=>xs.length+ys.length
theorem zKY (lt:List ByteArray→List ByteArray→Bool) (l:List uM):(Stab.srt (ltI lt) l).map Prod.snd=Stab.srt lt (l.map Prod.snd):=by
 have:∀(l acc:List uM),(l.foldl (fun acc r=>Stab.mrg (ltI lt) acc [r]) acc).map Prod.snd=(l.map Prod.snd).foldl (fun acc r=>Stab.mrg lt acc [r]) (acc.map Prod.snd):=by
  intro l
  induction l with
  | nil=>intro acc;rfl
  | cons x r ih=>intro acc;rw[List.foldl_cons,ih,zFG];rfl
 exact this l []
def vV (b:TableD) (d:QueryD):List ByteArray:=if d.cols.length=0 then b.cols else d.cols
def wF (cols:List ByteArray) (d:QueryD) (rs:List (List ByteArray)):List (List ByteArray):=if d.order=⟨#[]⟩ then rs else Stab.srt (ltK d.desc (xA cols d.order).toNat) rs
def yT (limit:Int) (rs:List (List ByteArray)):List (List ByteArray):=if limit=0 then rs else rs.take limit.toNat
def xL (cols sel:List ByteArray) (r:List ByteArray):List ByteArray:=sel.map fun c=>r.getD (xA cols c).toNat ByteArray.empty
def yY (b:TableD) (d:QueryD) (rs:List (List ByteArray)):List (List ByteArray):=(yT d.limit (wF b.cols d (rs.filter (vE b.cols d.wher)))).map (xL b.cols (vV b d))
end Go.Proofs.YtfpcjhajjejpdaaGreatDoor
namespace Go.Proofs.YtfpcjhajjejpdaaGreatDoor
open Go.RowKit
set_option linter.unusedVariables false
theorem zHW (cols:List ByteArray) (d:QueryD) (st:List ByteArray→Bool) (rs:List (List ByteArray)) (k:Nat) (h:k<rs.length) :
 wF cols d ((rs.take (k+1)).filter st)=if st (rs.getD k default)=true then (if d.order=⟨#[]⟩ then wF cols d ((rs.take k).filter st)++[rs.getD k default] else Stab.mrg (ltK d.desc (xA cols d.order).toNat) (wF cols d ((rs.take k).filter st)) [rs.getD k default]) else wF cols d ((rs.take k).filter st):=by
 rw[uW st rs k h];split
 · unfold wF;split
   · rfl
   · rw[Stab.srt_snoc]
 · rfl
theorem zCC {cols:List ByteArray} {d:QueryD} {rs:List (List ByteArray)} {x:List ByteArray} (h:x∈wF cols d rs):x∈rs:=by
 unfold wF at h;split at h
 · exact h
 · exact(Stab.srt_mem _ _).1 h
theorem zCD (cols:List ByteArray) (d:QueryD) (rs:List (List ByteArray)):(wF cols d rs).length=rs.length:=by
 unfold wF;split
 · rfl
 · exact Stab.srt_len _
theorem zFM (limit:Int) (rs:List (List ByteArray)):(yT limit rs).length=if limit=0 then rs.length else min rs.length limit.toNat:=by
 unfold yT;split
 · rfl
 · rw[List.length_take,Nat.min_comm]
theorem zKI (limit:Int) (rs:List (List ByteArray)) (k:Nat) (h:k<(yT limit rs).length):(yT limit rs).getD k default=rs.getD k default:=by
 unfold yT at h ⊢;split
 · rfl
 · rename_i hl;rw[if_neg hl,List.length_take]at h;rw[List.getD_eq_getElem?_getD,List.getElem?_take,if_pos (by omega),←List.getD_eq_getElem?_getD]
theorem zGy {α β:Type} [Inhabited α] (f:α→β) (l:List α) (k:Nat) (h:k<l.length):(l.take (k+1)).map f=(l.take k).map f++[f (l.getD k default)]:=by
 rw[List.take_succ_eq_append_getElem h,List.map_append,List.getD_eq_getElem?_getD,List.getElem?_eq_getElem h];rfl
theorem zFi (f:ByteArray→ByteArray) (l:List ByteArray) (k:Nat) (h:k<l.length):(l.take (k+1)).map f=(l.take k).map f++[f (l.getD k ByteArray.empty)]:=by
 rw[List.take_succ_eq_append_getElem h,List.map_append,List.getD_eq_getElem?_getD,List.getElem?_eq_getElem h];rfl
theorem zBX {l:List ByteArray} {x:ByteArray} (h:x∈l):0≤xA l x:=by
 have:=zCB l x;rw[List.any_eq_true.2 ⟨x,h,by simp⟩]at this;exact of_decide_eq_true this
def zCp (rs:List (List ByteArray)) (w:World) (e:Ending) (w':World):Prop:=∃v,e=.returned v∧RowsI w' w.heap.size v rs∧Below w.heap.size w w'
end Go.Proofs.YtfpcjhajjejpdaaGreatDoor
namespace Go.Proofs.YtfpcjhajjejpdaaGreatDoor
open Go.RowKit
set_option linter.unusedVariables false
def zAf (fs:List NodeD) (b:TableD) (q:QueryD):Int × List (List ByteArray) :=
 if (uA fs&&vS b q)=true then (if (yI b.cols (xB b.glob fs)).1=0 then (0,yY b q (yI b.cols (xB b.glob fs)).2) else ((yI b.cols (xB b.glob fs)).1,[])) else (1,[])
theorem zW0 {w:World} {base:Nat} {v:Value} {rs:List (List ByteArray)} (h:RowsI w base v rs):∃A cap,v=.slice A rs.length cap∧rs.length≤cap∧RowsRd w w.heap.size A rs.length rs:=by
 obtain⟨vs,h⟩:=h;obtain⟨A,cap,rfl,hc,_,hA⟩:=Own.own_slice h.row;refine⟨A,cap,rfl,hc,rfl,fun hn=>?_⟩;obtain⟨g,rfl,hg,_⟩:=hA hn;refine⟨g,0,rfl,hg,fun j hj=>?_⟩;have h0:=h.cellAt rfl j 0 hj (by decide);obtain⟨A1,cap1,e1,hc1,hs1⟩:=(h.subs j hj).strs;refine⟨_,?_,A1,_,cap1,e1,hs1,hc1⟩;rw[Nat.zero_add];have e:j*rowK.size+0=j:=by show j*1+0=j;omega
 rw[e]at h0;exact h0
theorem zKT {cols key val:ByteArray} {cs:List ByteArray} {x:List ByteArray} (h:uH cs key val=some x):vQ cs x=true:=by
 unfold uH at h;split at h
 · simp at h
 · next hh=>simp only[Option.some.injEq]at h;subst h;simp only[Bool.or_eq_true,not_or,Bool.not_eq_true',Bool.not_eq_false]at hh;exact hh.2
theorem zDE {f:NodeD→Option (List ByteArray)}:∀{l:List NodeD} {rs:List (List ByteArray)},wE f l=some rs→rs.length=l.length∧∀r∈rs,∃d,f d=some r
 | [],rs,h=>by simp only[wE,Option.some.injEq]at h;subst h;exact⟨rfl,fun r hr=>by simp at hr⟩
 | d::t,rs,h=>by
   unfold wE at h;split at h
   · simp at h
   · next x hx =>
     cases hu:wE f t with
     | none=>rw[hu]at h;simp at h
     | some ys =>
       rw[hu]at h;simp only[Option.map_some,Option.some.injEq]at h;subst h;obtain⟨h1,h2⟩:=zDE hu;refine⟨by simp[h1],fun r hr=>?_⟩;rcases List.mem_cons.1 hr with h3 | h3
       · subst h3;exact⟨d,hx⟩
       · exact h2 r h3
theorem zHp {s:ByteArray} (h:wI s=true):s.size≤1048576:=by
 unfold wI at h;simp only[Bool.and_eq_true,decide_eq_true_eq]at h;omega
theorem zHN {cs r:List ByteArray} (hc:cs.length≤5) (h:vQ cs r=true):yH r∧r.length=cs.length:=by
 unfold vQ at h;simp only[Bool.and_eq_true,decide_eq_true_eq,List.all_eq_true]at h;exact⟨⟨by omega,fun s hs=>zHp (h.2.2 s hs)⟩,h.1⟩
theorem zBE {cs:List ByteArray} {ns:List NodeD} (hc:cs.length≤5) (h:(yI cs ns).1=0):(yI cs ns).2.length≤24∧∀r∈(yI cs ns).2,yH r∧r.length=cs.length:=by
 unfold yI at h ⊢;split
 · exact⟨by simp,fun r hr=>by simp at hr⟩
 · next hl =>
   cases hu:wE (zDY cs) ns with
   | none=>exact⟨by simp,fun r hr=>by simp at hr⟩
   | some rs=>obtain⟨h1,h2⟩:=zDE hu;refine⟨by simp only[];omega,fun r hr=>?_⟩;obtain⟨d,hd⟩:=h2 r hr;exact zHN hc (zKT (cols:=ByteArray.empty) hd)
theorem vZ {b:TableD} {q:QueryD} (h:vS b q=true):(0<b.cols.length∧b.cols.length≤5)∧(∀c∈q.wher,0≤xA b.cols c.col)∧(q.order≠⟨#[]⟩→0≤xA b.cols q.order)∧(∀c∈q.cols,0≤xA b.cols c)∧0≤q.limit∧q.limit≤24:=by
 unfold vS at h;simp only[Bool.and_eq_true]at h;obtain⟨ht,hq,_,ho,hc,hw⟩:=h;have hin:∀x,Go.Proofs.YtfpcjhajjejpdaaGreatDoor.inP b.cols x=true→0≤xA b.cols x:=fun x hx=>by unfold Go.Proofs.YtfpcjhajjejpdaaGreatDoor.inP at hx;exact of_decide_eq_true hx
 unfold wM at ht;simp only[Bool.and_eq_true]at ht;obtain⟨_,_,t1,t2,_⟩:=ht;unfold vN at hq;simp only[Bool.and_eq_true]at hq;obtain⟨_,_,_,_,_,ql,_⟩:=hq;unfold inB at ql;simp only[Bool.and_eq_true]at ql;refine⟨⟨of_decide_eq_true t1,of_decide_eq_true t2⟩,fun c hcm=>hin _ (List.all_eq_true.1 hw c hcm),fun hne=>?_,fun c hcm=>hin _ (List.all_eq_true.1 hc c hcm),of_decide_eq_true ql.1,of_decide_eq_true ql.2⟩;rw[Bool.or_eq_true]at ho;rcases ho with h1 | h1
 · exact absurd (of_decide_eq_true h1) hne
 · exact hin _ h1
end Go.Proofs.YtfpcjhajjejpdaaGreatDoor
namespace Go.Proofs.YtfpcjhajjejpdaaGreatDoor
open Go.RowKit
set_option linter.unusedVariables false
def vX (cols:List ByteArray) (ns:List NodeD) (key:ByteArray):Int × List ByteArray :=
 if atI ns key<0 then (3,[]) else (zAQ (uH cols key (ns.getD (atI ns key).toNat default).val),(uH cols key (ns.getD (atI ns key).toNat default).val).getD [])
def zCO (r:Int × List ByteArray) (w:World) (e:Ending) (w':World):Prop:=∃v,e=.returned (.tuple #[.agg #[v],.int .i64 r.1])∧Own.SubO w' w.heap.size v r.2∧Below w.heap.size w w'
end Go.Proofs.YtfpcjhajjejpdaaGreatDoor
