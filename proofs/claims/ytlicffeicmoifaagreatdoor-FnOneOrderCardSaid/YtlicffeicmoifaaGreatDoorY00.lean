import Derived.Test.YtlicffeicmoifaaGreatDoorZ00
import Derived.Test.YtlicffeicmoifaaGreatDoorZ01
import Derived.Test.YtlicffeicmoifaaGreatDoorZ02
import Derived.Test.YtlicffeicmoifaaGreatDoorZ03
import Derived.Test.YtlicffeicmoifaaGreatDoorZ04
import Derived.Test.YtlicffeicmoifaaGreatDoorZ05
import Derived.Test.YtlicffeicmoifaaGreatDoorZ06
import Derived.Test.YtlicffeicmoifaaGreatDoorZ07
import Derived.Test.YtlicffeicmoifaaGreatDoorZ08
import Derived.Test.YtlicffeicmoifaaGreatDoorZ09
import Derived.Test.YtlicffeicmoifaaGreatDoorZ10
import Derived.Test.YtlicffeicmoifaaGreatDoorZ11
import Derived.Test.YtlicffeicmoifaaGreatDoorZ12
import Derived.Test.YtlicffeicmoifaaGreatDoorZ13
import Derived.Test.YtlicffeicmoifaaGreatDoorZ14
import Derived.Test.YtlicffeicmoifaaGreatDoorZ15
import Derived.Test.YtlicffeicmoifaaGreatDoorZ16
import Derived.Test.YtlicffeicmoifaaGreatDoorZ17
import Derived.Test.YtlicffeicmoifaaGreatDoorZ18
import Derived.Test.YtlicffeicmoifaaGreatDoorZ19
import Derived.Test.YtlicffeicmoifaaGreatDoorZ20
import Derived.Test.YtlicffeicmoifaaGreatDoorZ21
import Derived.Test.YtlicffeicmoifaaGreatDoorZ22
import Derived.Test.YtlicffeicmoifaaGreatDoorZ23
import Derived.Test.YtlicffeicmoifaaGreatDoorZ24
import Derived.Test.YtlicffeicmoifaaGreatDoorZ25
import Derived.Test.YtlicffeicmoifaaGreatDoorZ26
import Derived.Test.YtlicffeicmoifaaGreatDoorZ27
import Derived.Test.YtlicffeicmoifaaGreatDoorZ28
import Derived.Test.YtlicffeicmoifaaGreatDoorZ29
import Derived.Test.YtlicffeicmoifaaGreatDoorZ30
import Derived.Test.YtlicffeicmoifaaGreatDoorZ31
import Derived.Test.YtlicffeicmoifaaGreatDoorZ32
import Derived.Test.YtlicffeicmoifaaGreatDoorZ33
import Derived.Test.YtlicffeicmoifaaGreatDoorZ34
import Derived.Test.YtlicffeicmoifaaGreatDoorZ35
import Derived.Test.YtlicffeicmoifaaGreatDoorZ36
import Derived.Test.YtlicffeicmoifaaGreatDoorZ37
import Derived.Test.YtlicffeicmoifaaGreatDoorZ38
import Derived.Test.YtlicffeicmoifaaGreatDoorZ39
import Derived.Test.YtlicffeicmoifaaGreatDoorZ40
import Derived.Test.YtlicffeicmoifaaGreatDoorZ41
import Derived.Test.YtlicffeicmoifaaGreatDoorZ42
import Derived.Test.YtlicffeicmoifaaGreatDoorProg
import Derived.BigQuiet
import Derived.Deep.QuietTactic
import Derived.Deep.RegionHeld3
import Derived.Lib.Hide
import Derived.Lib.SliceRun
import Derived.Lib.Strings
import Derived.Maps.AppendAt
import Derived.WalkKit
import Derived.WalkLawsBesides
import Derived.WalkSpells
import Derived.Deep.CutBlock
import Derived.Deep.DeepCutAuto
import Derived.Deep.RegionWith
import Derived.IntWalk
import Derived.Lib.ItoaNum
import Derived.Lib.SlTrimSet
import Derived.Deep.AppendLies
import Derived.Deep.RegionLaw
import Derived.Ground.Names2Prog
import Derived.Ground.SlgnProg
import Derived.Laws.OwnMore
import Derived.Lib.AppendIntMem
import Derived.Lib.IndexAny
import Derived.Lib.OwnBridge
import Derived.Lib.TrimUEq
import Derived.LoopIn
import Derived.LoopNIn
import Derived.OwnWalk
import Derived.OwnWalkIn
import Derived.RangeFuncBox
import Derived.RangeFuncLeaves
import Derived.RegionTactic
import Derived.Shelf.Abstract
import Derived.Shelf.GgClosure.StringsIndexFuncTop
import Derived.Shelf.LaysM
import Derived.Shelf.Slices.Cells
import Derived.Shelf.Slices.Clone
import Derived.Shelf.Slices.CompactS
import Derived.Shelf.Slices.Empties2
import Derived.Shelf.Slices.Equal
import Derived.Shelf.SlicesE.Clone
import Derived.Shelf.SlicesG.CompactI
import Derived.Shelf.SlicesG.Delete
import Derived.Shelf.SlicesG.SearchI
import Derived.Shelf.Small.Bits
import Derived.Shelf.Small.Strs
import Derived.Shelf.Small.Utf8
import Derived.Shelf.Small.Wraps
import Derived.Shelf.Strconv.Itoa0
import Derived.Shelf.Strconv.Itoa1
import Derived.Shelf.Strconv.Itoa2
import Derived.Shelf.Strconv.Itoa3
import Derived.Shelf.Strconv.Itoa4
import Derived.Shelf.Strings.AsciiSet
import Derived.Shelf.Strings.Builder1
import Derived.Shelf.Strings.Builder2
import Derived.Shelf.Strings.Count
import Derived.Shelf.Strings.OnBuilder
import Derived.Shelf.Strings.Prefix
import Derived.Shelf.Strings.Replace
import Derived.Shelf.Strings.RuneCount
import Derived.Shelf.Strings.Runes
import Derived.Shelf.Strings.Search1
import Derived.Shelf.Strings.Search2
import Derived.Shelf.Strings.Search3
import Derived.Shelf.Strings.Shaped
import Derived.Shelf.Strings.SlTrimAscii
import Derived.Shelf.Strings.Split
import Derived.Shelf.Strings.SplitShaped
import Derived.Shelf.Strings.Trim
import Derived.Shelf.Unicode.Decode
import Derived.Shelf.Unicode.DecodeAny
import Derived.Shelf.Unicode.DecodeLast
import Derived.Shelf.Unicode.DecodeSlow
import Derived.Shelf.Unicode.PredsPay
import Derived.TacticsInMore
import Derived.Laws.BitsAllLaws
import Derived.Lib.SlicesCompact
set_option linter.unusedSimpArgs false
namespace Go.Proofs.YtlicffeicmoifaaGreatDoor.Own
open Go.RowKit Go.Proofs.YtlicffeicmoifaaGreatDoor
theorem apart_symm {a b:Value} (h:apart a b):apart b a:=by
 unfold apart at h ⊢
 cases hb:b.ownBlock with
 | none=>exact .inl rfl
 | some g =>
   refine .inr ?_;rcases h with h | h
   · rw[h];simp
   · rw[hb]at h;exact fun e=>h e.symm
end Go.Proofs.YtlicffeicmoifaaGreatDoor.Own
namespace Go.Proofs.YtlicffeicmoifaaGreatDoor
open Go.RowKit
theorem idxF_bd {α:Type} (p:α→Bool):∀(l:List α) (k:Nat),-1≤idxF p l k∧idxF p l k<k+l.length
 | [],k=>by simp[idxF];omega
 | d::r,k=>by have:=idxF_bd p r (k+1);unfold idxF;simp only[List.length_cons];split <;> omega
end Go.Proofs.YtlicffeicmoifaaGreatDoor
namespace Go.Proofs.YtlicffeicmoifaaGreatDoor
open Go.RowKit
set_option linter.unusedVariables false
set_option linter.unusedSimpArgs false
theorem rep_cons {fs:List NodeD} {e:EvD} {r:List EvD} {i:Nat} (h:(repB fs (e::r) i).1=0):(applyB fs e).1=0∧repB fs (e::r) i=repB (applyB fs e).2 r (i+1):=by
 have e1:repB fs (e::r) i=if (applyB fs e).1=0 then repB (applyB fs e).2 r (i+1) else ((applyB fs e).1,i,[]):=rfl
 rw[e1]at h ⊢;split at h
 · next h1=>rw[if_pos h1];exact⟨h1,rfl⟩
 · next h1=>exact absurd h h1
theorem rep_cons_of {fs:List NodeD} {e:EvD} {r:List EvD} {i:Nat} (h:(applyB fs e).1=0):repB fs (e::r) i=repB (applyB fs e).2 r (i+1):=by
 conv=>lhs;unfold repB
 rw[if_pos h]
theorem rep_back:∀(B:List EvD) (x:EvD) (post:List EvD) (fs:List NodeD) (i j:Nat),treeB fs=true→noteB x=true→(∀b∈B,noteB b=true∧confB x b=false)→fs.length+B.length+1≤120 →
 (repB fs (x::(B++post)) i).1=0→(repB fs (B++x::post) j).1=0∧(repB fs (B++x::post) j).2.2=(repB fs (x::(B++post)) i).2.2
 | [],x,post,fs,i,j,_,_,_,_,h0=>by obtain⟨a,b⟩:=rep_idx (x::post) fs j i;exact⟨a.trans h0,b⟩
 | b::B,x,post,fs,i,j,ht,hx,hB,hsz,h0=>by simp only[List.length_cons]at hsz;obtain⟨hb,hc⟩:=hB b (by simp);obtain⟨s1,s2⟩:=rep_swap [] x b (B++post) fs i j ht (fun e he=>by cases he) hx hb hc (by simp;omega) h0;simp only[List.nil_append]at s1 s2;obtain⟨a1,a2⟩:=rep_cons s1;have hl:=app_len (fs:=fs) (e:=b) (by omega) a1;rw[a2]at s1 s2;obtain⟨r1,r2⟩:=rep_back B x post (applyB fs b).2 (j+1) (j+1) (apply_tree ht hb a1) hx (fun c hc'=>hB c (List.mem_cons_of_mem _ hc')) (by omega) s1;rw[List.cons_append,rep_cons_of a1];exact⟨r1,r2.trans s2⟩
end Go.Proofs.YtlicffeicmoifaaGreatDoor
namespace Go.Proofs.YtlicffeicmoifaaGreatDoor
open Go.RowKit _root_.Go.Proofs.YtlicffeicmoifaaGreatDoor.Own
set_option linter.unusedVariables false
section
variable {w w':World} {B B' n:Nat} {A:Option Addr} {zs:List Int}
theorem Ints.keep (h:Ints w B A n zs) (hk:∀p:Addr,p.block<B→w'.cell? p=w.cell? p):Ints w' B A n zs :=
 ⟨h.1,fun hn=>by
   obtain⟨b,o,e,hb,hc⟩:=h.2 hn
   exact⟨b,o,e,hb,fun j hj=>(hk _ hb).trans (hc j hj)⟩⟩
theorem Ints.more (h:Ints w B A n zs) (hB:B≤B'):Ints w B' A n zs :=
 ⟨h.1,fun hn=>by
   obtain⟨b,o,e,hb,hc⟩:=h.2 hn
   exact⟨b,o,e,by omega,hc⟩⟩
theorem Ints.later (h:Ints w w.heap.size A n zs) (hb:Below w.heap.size w w'):Ints w' w'.heap.size A n zs:=(h.keep fun _ hp=>hb.cell hp).more hb.size
theorem Ints.zero:Ints w B A 0 []:=⟨rfl,fun h=>absurd h (by omega)⟩
end
theorem own_ints {w:World} {base n:Nat} {e:TypeId} {v:Value} {zs:List Int} (h:w.ownsRow base e 1 v n (zs.map (Value.int .i64))):∃A cap,v=.slice A n cap∧n≤cap∧Ints w w.heap.size A n zs:=by
 have hl:zs.length=n:=by have:=h.1;simpa using this
 rcases h.2 with ⟨rfl,rfl⟩ | ⟨g,cap,cur,rfl,_,hh,hc,_⟩
 · have:zs=[]:=List.eq_nil_of_length_eq_zero hl;subst this;exact⟨none,0,rfl,Nat.le_refl _,Ints.zero⟩
 · refine⟨_,cap,rfl,hc,hl,fun _=>⟨g,0,rfl,(Blk.lt (t:=e) hh),fun j hj=>?_⟩⟩;have hj':j<zs.length:=by rw[hl];exact hj
   have:=h.cells (g:=g) rfl j (.int .i64 zs[j]) (by simp[List.getElem?_eq_getElem hj']);rw[List.getD_eq_getElem?_getD,List.getElem?_eq_getElem hj'];unfold Addr.add at this;split at this
   · rename_i h0;subst h0;simpa using this
   · simpa using this
end Go.Proofs.YtlicffeicmoifaaGreatDoor
namespace Go.Proofs.YtlicffeicmoifaaGreatDoor
open Go.RowKit
set_option linter.unusedVariables false
theorem c2Big2_any (A:Option Addr) (n c:Nat) (A':Option Addr) (n' c':Nat) (w:World) (hn:n≤9223372036854775807) (hn':n'≤9223372036854775807) :
 Calls Tryz.prog 7 #[.slice A n c,.slice A' n' c'] w fun e w'=>e=.returned (.bool (decide (1048576<n)||decide (1048576<n')))∧w=w':=by
 by_cases h:1048576<n
 · go_enter Tryz.func7,Tryz.ntmps7;go_wp2_with fail;go_ret;exact⟨ret_bool (by first | (simp[h];done) | (simp[h];omega)),rfl⟩
 · by_cases h':1048576<n'
   all_goals
    go_enter Tryz.func7,Tryz.ntmps7;go_wp2_with fail;go_ret;exact⟨ret_bool (by first | (simp[h,h'];done) | (simp[h,h'];omega)),rfl⟩
end Go.Proofs.YtlicffeicmoifaaGreatDoor
namespace Go.Proofs.YtlicffeicmoifaaGreatDoor
open Go.RowKit
set_option linter.unusedVariables false
set_option linter.unusedSimpArgs false
def ofJ (o:Int) (l:List DoD):List DoD:=l.filter fun d=>decide (d.job=o)
def notJ (o:Int) (l:List DoD):List DoD:=l.filter fun d=>!decide (d.job=o)
def freeJ (o:Int) (l:List DoD):Prop:=l.Pairwise fun x y=>x.job≠o→y.job=o→confB x.ev y.ev=false
theorem evsD_app (a b:List DoD):evsD (a++b)=evsD a++evsD b:=List.map_append
theorem evsD_len (a:List DoD):(evsD a).length=a.length:=List.length_map _
theorem filt_len (p:DoD→Bool):∀l:List DoD,(l.filter p).length+(l.filter fun d=>!p d).length=l.length
 | []=>rfl
 | d::r=>by
   have ih:=filt_len p r;rw[List.filter_cons,List.filter_cons];cases h:p d
   · simp only[h,Bool.not_false,if_true,List.length_cons];simp;omega
   · simp only[h,Bool.not_true,if_true,List.length_cons];simp;omega
theorem rep_part (o:Int):∀(l:List DoD) (fs:List NodeD) (i j:Nat),treeB fs=true→(∀d∈l,noteB d.ev=true)→fs.length+l.length≤120→freeJ o l →
 (repB fs (evsD l) i).1=0→(repB fs (evsD (ofJ o l++notJ o l)) j).1=0∧(repB fs (evsD (ofJ o l++notJ o l)) j).2.2=(repB fs (evsD l) i).2.2
 | [],fs,i,j,_,_,_,_,_=>⟨rfl,rfl⟩
 | x::r,fs,i,j,ht,hn,hsz,hf,h0=>by
   rw[List.length_cons]at hsz;unfold freeJ at hf;rw[List.pairwise_cons]at hf;obtain⟨hf1,hf2⟩:=hf;have hx:=hn x (by simp);have e0:evsD (x::r)=x.ev::evsD r:=rfl;rw[e0]at h0 ⊢;obtain⟨a1,a2⟩:=rep_cons h0;have hl:=app_len (fs:=fs) (e:=x.ev) (by omega) a1;rw[a2]at h0 ⊢;obtain⟨r1,r2⟩:=rep_part o r (applyB fs x.ev).2 (i+1) (j+1) (apply_tree ht hx a1) (fun d hd=>hn d (List.mem_cons_of_mem _ hd)) (by omega) hf2 h0;by_cases hj:x.job=o
   · have e1:ofJ o (x::r)=x::ofJ o r:=by unfold ofJ;rw[List.filter_cons_of_pos (by simpa using hj)]
     have e2:notJ o (x::r)=notJ o r:=by unfold notJ;rw[List.filter_cons_of_neg (by simpa using hj)]
     rw[e1,e2,List.cons_append];have e3:evsD (x::(ofJ o r++notJ o r))=x.ev::evsD (ofJ o r++notJ o r):=rfl;rw[e3,rep_cons_of a1];exact⟨r1,r2⟩
   · have e1:ofJ o (x::r)=ofJ o r:=by unfold ofJ;rw[List.filter_cons_of_neg (by simpa using hj)]
     have e2:notJ o (x::r)=x::notJ o r:=by unfold notJ;rw[List.filter_cons_of_pos (by simpa using hj)]
     rw[e1,e2];have e3:evsD (ofJ o r++x::notJ o r)=evsD (ofJ o r)++x.ev::evsD (notJ o r):=by rw[evsD_app];rfl
     rw[e3];have hlen:=filt_len (fun d=>decide (d.job=o)) r;have hc:=rep_cons_of (r:=evsD (ofJ o r++notJ o r)) (i:=j) a1;rw[evsD_app]at hc r1 r2;rw[←hc]at r1 r2
     obtain⟨s1,s2⟩:=rep_back (evsD (ofJ o r)) x.ev (evsD (notJ o r)) fs j j ht hx (fun b hb=>by
      unfold evsD at hb;obtain⟨d,hd,rfl⟩:=List.mem_map.1 hb;unfold ofJ at hd;obtain⟨hd1,hd2⟩:=List.mem_filter.1 hd
      exact⟨hn d (List.mem_cons_of_mem _ hd1),hf1 d hd1 hj (by simpa using hd2)⟩) (by rw[evsD_len];unfold ofJ;omega) r1
     exact⟨s1,s2.trans r2⟩
theorem rep_app:∀(A B:List EvD) (fs:List NodeD) (i:Nat),(repB fs (A++B) i).1=0→(repB fs A i).1=0∧∀j,(repB (repB fs A i).2.2 B j).1=0∧(repB (repB fs A i).2.2 B j).2.2=(repB fs (A++B) i).2.2
 | [],B,fs,i,h=>⟨rfl,fun j=>by
   obtain⟨a,b⟩:=rep_idx B fs j i
   exact⟨a.trans h,b⟩⟩
 | e::A,B,fs,i,h=>by rw[List.cons_append]at h ⊢;obtain⟨a1,a2⟩:=rep_cons h;rw[a2]at h ⊢;rw[rep_cons_of a1];exact rep_app A B _ _ h
theorem rep_app_of:∀(A B:List EvD) (fs:List NodeD) (i j:Nat),(repB fs A i).1=0→(repB (repB fs A i).2.2 B j).1=0→(repB fs (A++B) i).1=0∧(repB fs (A++B) i).2.2=(repB (repB fs A i).2.2 B j).2.2
 | [],B,fs,i,j,_,h=>by obtain⟨a,b⟩:=rep_idx B fs i j;exact⟨a.trans h,b⟩
 | e::A,B,fs,i,j,h,h'=>by obtain⟨a1,a2⟩:=rep_cons h;rw[a2]at h h';rw[List.cons_append,rep_cons_of a1,a2];exact rep_app_of A B _ _ j h h'
theorem rep_len:∀(l:List EvD) (fs:List NodeD) (i:Nat),fs.length+l.length≤120→(repB fs l i).1=0→(repB fs l i).2.2.length≤fs.length+l.length
 | [],fs,i,_,_=>by show fs.length≤fs.length+0;omega
 | e::r,fs,i,hl,h=>by rw[List.length_cons]at hl ⊢;obtain⟨a1,a2⟩:=rep_cons h;rw[a2]at h ⊢;have h1:=app_len (fs:=fs) (e:=e) (by omega) a1;have:=rep_len r _ _ (by omega) h;omega
def arrB:List Int→List DoD→List DoD
 | [],_=>[]
 | o::os,l=>ofJ o l++arrB os (notJ o l)
def fitJ:List Int→List DoD→Prop
 | [],l=>l=[]
 | o::os,l=>freeJ o l∧fitJ os (notJ o l)
theorem rep_arr:∀(os:List Int) (l:List DoD) (fs:List NodeD) (i j:Nat),treeB fs=true→(∀d∈l,noteB d.ev=true)→fs.length+l.length≤120→fitJ os l →
 (repB fs (evsD l) i).1=0→(repB fs (evsD (arrB os l)) j).1=0∧(repB fs (evsD (arrB os l)) j).2.2=(repB fs (evsD l) i).2.2
 | [],l,fs,i,j,_,_,_,hf,h0=>by have e:l=[]:=hf;subst e;exact⟨rfl,rfl⟩
 | o::os,l,fs,i,j,ht,hn,hsz,hf,h0=>by
   obtain⟨hf1,hf2⟩:=hf;obtain⟨p1,p2⟩:=rep_part o l fs i j ht hn hsz hf1 h0;rw[evsD_app]at p1 p2;obtain⟨q1,q2⟩:=rep_app _ _ _ _ p1;obtain⟨q3,q4⟩:=q2 0;have hlen:=filt_len (fun d=>decide (d.job=o)) l;have hno:∀d∈ofJ o l,noteB d.ev=true:=fun d hd=>hn d (List.mem_filter.1 hd).1
   have ht2:treeB (repB fs (evsD (ofJ o l)) j).2.2=true:=rep_tree _ _ _ ht (fun e he=>by
    unfold evsD at he;obtain⟨d,hd,rfl⟩:=List.mem_map.1 he
    exact hno d hd) q1
   have hl2:=rep_len (evsD (ofJ o l)) fs j (by rw[evsD_len];unfold ofJ;omega) q1;rw[evsD_len]at hl2;obtain⟨r1,r2⟩:=rep_arr os (notJ o l) _ 0 0 ht2 (fun d hd=>hn d (List.mem_filter.1 hd).1) (by unfold ofJ at hl2;unfold notJ ofJ;omega) hf2 q3;have e:evsD (arrB (o::os) l)=evsD (ofJ o l)++evsD (arrB os (notJ o l)):=evsD_app _ _;rw[e];obtain⟨s1,s2⟩:=rep_app_of _ _ _ _ 0 q1 r1;exact⟨s1,s2.trans (r2.trans (q4.trans p2))⟩
end Go.Proofs.YtlicffeicmoifaaGreatDoor
namespace Go.Proofs.YtlicffeicmoifaaGreatDoor
open Go.RowKit
set_option linter.unusedVariables false
set_option linter.unusedSimpArgs false
noncomputable def edgeB:List DoD→Int→Int→Bool
 | [],_,_=>false
 | x::r,a,b=>(decide (x.job=a)&&r.any fun y=>decide (y.job=b)&&confB x.ev y.ev)||edgeB r a b
theorem edge_no {a b:Int}:∀{l:List DoD},edgeB l a b=false→l.Pairwise fun x y=>x.job=a→y.job=b→confB x.ev y.ev=false
 | [],_=>List.Pairwise.nil
 | x::r,h=>by unfold edgeB at h;rw[Bool.or_eq_false_iff]at h;refine List.pairwise_cons.2 ⟨fun y hy hx hb=>?_,edge_no h.2⟩;have h1:=h.1;rw[hx,decide_eq_true rfl,Bool.true_and,List.any_eq_false]at h1;have h2:=h1 y hy;rw[hb,decide_eq_true rfl,Bool.true_and]at h2;simpa using h2
theorem edge_mem {a b:Int}:∀{l:List DoD},edgeB l a b=true→(∃x∈l,x.job=a)∧∃y∈l,y.job=b
 | [],h=>by cases h
 | x::r,h=>by
   unfold edgeB at h;rw[Bool.or_eq_true]at h;rcases h with h | h
   · rw[Bool.and_eq_true,decide_eq_true_eq,List.any_eq_true]at h;obtain⟨h1,y,hy,h2⟩:=h;rw[Bool.and_eq_true,decide_eq_true_eq]at h2;exact⟨⟨x,by simp,h1⟩,y,List.mem_cons_of_mem _ hy,h2.1⟩
   · obtain⟨⟨x',hx,h1⟩,y,hy,h2⟩:=edge_mem h;exact⟨⟨x',List.mem_cons_of_mem _ hx,h1⟩,y,List.mem_cons_of_mem _ hy,h2⟩
def freeQ (E:Int→Int→Bool) (left:List Int) (o:Int):Bool:=left.all fun a=>!E a o
def ordE (E:Int→Int→Bool):Nat→List Int→Option (List Int)
 | 0,_=>some []
 | n+1,left=>match left.find? (freeQ E left) with
   | none=>none
   | some o=>(ordE E n (left.erase o)).map (o::·)
theorem ordE_step {E:Int→Int→Bool} {n:Nat} {left out:List Int} (h:ordE E (n+1) left=some out):∃o os,out=o::os∧o∈left∧(∀a∈left,E a o=false)∧ordE E n (left.erase o)=some os:=by
 unfold ordE at h;split at h
 · cases h
 · next o ho=>obtain⟨os,h1,h2⟩:=Option.map_eq_some_iff.1 h;have hq:=List.find?_some ho;unfold freeQ at hq;rw[List.all_eq_true]at hq;exact⟨o,os,h2.symm,List.mem_of_find?_eq_some ho,fun a ha=>by simpa using hq a ha,h1⟩
theorem ordE_perm {E:Int→Int→Bool}:∀(n:Nat) (left out:List Int),left.length=n→ordE E n left=some out→out.Perm left
 | 0,left,out,hn,h=>by have:left=[]:=List.length_eq_zero_iff.1 hn;subst this;injection h with h;subst h;exact List.Perm.nil
 | n+1,left,out,hn,h=>by obtain⟨o,os,rfl,ho,_,h1⟩:=ordE_step h;have:=ordE_perm n (left.erase o) os (by rw[List.length_erase_of_mem ho];omega) h1;exact(this.cons o).trans (List.perm_cons_erase ho).symm
theorem ordE_fit {E:Int→Int→Bool}:∀(n:Nat) (left out:List Int) (l:List DoD),left.length=n→(∀d∈l,d.job∈left)→(∀a b,a≠b→E a b=false→edgeB l a b=false)→ordE E n left=some out→fitJ out l
 | 0,left,out,l,hn,hl,_,h=>by
   have:left=[]:=List.length_eq_zero_iff.1 hn;subst this;injection h with h;subst h;show l=[]
   cases l with
   | nil=>rfl
   | cons d r=>cases hl d (by simp)
 | n+1,left,out,l,hn,hl,hE,h=>by
   obtain⟨o,os,rfl,ho,hq,h1⟩:=ordE_step h;refine⟨?_,ordE_fit n (left.erase o) os (notJ o l) (by rw[List.length_erase_of_mem ho];omega) (fun d hd=>?_) (fun a b hab hf=>?_) h1⟩
   · unfold freeJ;have hall:∀x∈l,x.job≠o→l.Pairwise fun x' y=>x'.job=x.job→y.job=o→confB x'.ev y.ev=false:=fun x hx hxo=>edge_no (hE _ _ hxo (hq _ (hl x hx)));refine List.Pairwise.imp_of_mem (R:=fun x y=>∀a,a≠o→a∈left→x.job=a→y.job=o→confB x.ev y.ev=false) (fun {x y} hx hy hR hxo hyo=>hR x.job hxo (hl x hx) rfl hyo) ?_;refine pair_all fun a=>?_;by_cases h1:a≠o∧a∈left
     · exact(edge_no (hE _ _ h1.1 (hq _ h1.2))).imp fun h2 _ _=>h2
     · exact List.pairwise_of_forall fun x y h2 h3=>absurd ⟨h2,h3⟩ h1
   · obtain⟨hd1,hd2⟩:=List.mem_filter.1 hd;have hne:d.job≠o:=by simpa using hd2
     exact(List.mem_erase_of_ne hne).2 (hl d hd1)
   · exact edge_of_pair (List.Pairwise.filter _ (edge_no (hE a b hab hf)))
where
 pair_all {R:Int→DoD→DoD→Prop}:∀{l:List DoD},(∀a,l.Pairwise (R a))→l.Pairwise fun x y=>∀a,R a x y
  | [],_=>List.Pairwise.nil
  | x::r,h=>List.pairwise_cons.2 ⟨fun y hy a=>(List.pairwise_cons.1 (h a)).1 y hy,pair_all fun a=>(List.pairwise_cons.1 (h a)).2⟩
 edge_of_pair {a b:Int}:∀{l:List DoD},(l.Pairwise fun x y=>x.job=a→y.job=b→confB x.ev y.ev=false)→edgeB l a b=false
  | [],_=>rfl
  | x::r,h=>by
    obtain⟨h1,h2⟩:=List.pairwise_cons.1 h;unfold edgeB;rw[edge_of_pair h2,Bool.or_false,Bool.and_eq_false_iff];by_cases hx:x.job=a
    · refine .inr (List.any_eq_false.2 fun y hy=>?_);by_cases hb:y.job=b
      · rw[h1 y hy hx hb];simp
      · simp[hb]
    · exact .inl (decide_eq_false hx)
theorem ordE_ahead {E:Int→Int→Bool}:∀(n:Nat) (left out:List Int) (a b:Int),left.length=n→E a b=true→a∈left→b∈left→ordE E n left=some out→∃i j:Nat,i<j∧out[i]?=some a∧out[j]?=some b
 | 0,left,out,a,b,hn,_,ha,_,_=>by have:left=[]:=List.length_eq_zero_iff.1 hn;subst this;cases ha
 | n+1,left,out,a,b,hn,hE,ha,hb,h=>by
   obtain⟨o,os,rfl,ho,hq,h1⟩:=ordE_step h;have hbo:b≠o:=fun e=>by have:=hq a ha;rw[e]at hE;rw[hE]at this;cases this
   have hln:(left.erase o).length=n:=by rw[List.length_erase_of_mem ho];omega
   have hb':b∈left.erase o:=(List.mem_erase_of_ne hbo).2 hb;by_cases hao:a=o
   · have hp:=ordE_perm n (left.erase o) os hln h1;obtain⟨j,hj⟩:=List.mem_iff_getElem?.1 (hp.mem_iff.2 hb');exact⟨0,j+1,by omega,by rw[hao];rfl,hj⟩
   · obtain⟨i,j,hij,hi,hj⟩:=ordE_ahead n (left.erase o) os a b hln hE ((List.mem_erase_of_ne hao).2 ha) hb' h1;exact⟨i+1,j+1,by omega,hi,hj⟩
theorem arr_flat:∀(os:List Int) (l:List DoD),os.Nodup→arrB os l=os.flatMap fun o=>ofJ o l
 | [],l,_=>rfl
 | o::os,l,h=>by
   obtain⟨h1,h2⟩:=List.nodup_cons.1 h;show ofJ o l++arrB os (notJ o l)=_;rw[arr_flat os (notJ o l) h2,List.flatMap_cons]
   congr 1
   rw[List.flatMap_def,List.flatMap_def]
   congr 1
   refine List.map_congr_left fun b hb=>?_;unfold ofJ notJ;rw[List.filter_filter];refine List.filter_congr fun d _=>?_;by_cases hd:d.job=b
   · have:d.job≠o:=fun e=>h1 (by rw[←e,hd];exact hb);simp[hd,this];rw[←hd];exact this
   · simp[hd]
theorem arr_len:∀(os:List Int) (l:List DoD),fitJ os l→(arrB os l).length=l.length
 | [],l,h=>by have e:l=[]:=h;subst e;rfl
 | o::os,l,h=>by show(ofJ o l++arrB os (notJ o l)).length=_;rw[List.length_append,arr_len os _ h.2];exact filt_len _ l
theorem arr_doings {os:List Int} {l:List DoD} (h:doingsB l=true) (hf:fitJ os l):doingsB (arrB os l)=true:=by
 obtain⟨h1,h2⟩:=doings_all h;refine doings_of (by rw[arr_len os l hf];exact h1) fun d hd=>h2 d (arr_mem os l d hd)
where
 arr_mem:∀(os:List Int) (l:List DoD) (d:DoD),d∈arrB os l→d∈l
  | [],l,d,h=>by cases h
  | o::os,l,d,h=>by
    rcases List.mem_append.1 h with h1 | h1
    · exact(List.mem_filter.1 h1).1
    · exact(List.mem_filter.1 (arr_mem os _ d h1)).1
end Go.Proofs.YtlicffeicmoifaaGreatDoor
namespace Go.Proofs.YtlicffeicmoifaaGreatDoor
open Go.RowKit
set_option linter.unusedVariables false
set_option linter.unusedSimpArgs false
theorem erase_at:∀(l:List Int) (j:Nat) (hj:j<l.length),l.Nodup→l.erase (l[j]'hj)=l.eraseIdx j
 | [],j,hj,_=>absurd hj (by simp)
 | x::r,0,hj,_=>by simp
 | x::r,j+1,hj,h=>by
   obtain⟨h1,h2⟩:=List.nodup_cons.1 h;have hj':j<r.length:=by simpa using hj
   have hm:r[j]'hj'∈r:=List.getElem_mem hj';have hne:x≠r[j]'hj':=fun e=>h1 (by rw[e];exact hm);rw[List.getElem_cons_succ,List.eraseIdx_cons_succ,List.erase_cons_tail (by simpa using hne),erase_at r j hj' h2]
theorem ord_none {E:Int→Int→Bool} {left:List Int} (h0:left≠[]) (h:idxF (freeQ E left) left 0=-1):ordE E left.length left=none:=by
 cases hl:left.length with
 | zero=>exact absurd (List.length_eq_zero_iff.1 hl) h0
 | succ n =>
   unfold ordE
   cases hf:left.find? (freeQ E left) with
   | none=>rfl
   | some o=>obtain⟨j,_,e,_⟩:=(idx_find (freeQ E left) left 0).2 o hf;rw[h]at e;omega
theorem ord_take {E:Int→Int→Bool} {left:List Int} {j:Nat} (hn:left.Nodup) (h:idxF (freeQ E left) left 0=j):j<left.length∧ordE E left.length left=(ordE E (left.take j++left.drop (j+1)).length (left.take j++left.drop (j+1))).map (left.getD j default::·)∧(left.take j++left.drop (j+1)).Nodup∧(left.take j++left.drop (j+1)).length+1=left.length:=by
 cases hf:left.find? (freeQ E left) with
 | none=>have:=(idx_find (freeQ E left) left 0).1 hf;rw[h]at this;omega
 | some o =>
   obtain⟨j',hj,e,e2⟩:=(idx_find (freeQ E left) left 0).2 o hf;rw[h]at e;have:j'=j:=by omega
   subst this;have e3:left.erase o=left.take j'++left.drop (j'+1):=by rw[←List.eraseIdx_eq_take_drop_succ,←e2,List.getD_eq_getElem?_getD,List.getElem?_eq_getElem hj];exact erase_at left j' hj hn
   have ho:=List.mem_of_find?_eq_some hf;have hl:(left.erase o).length+1=left.length:=by rw[List.length_erase_of_mem ho];have:=List.length_pos_of_mem ho;omega
   rw[e3]at hl;refine⟨hj,?_,by rw[←e3];exact hn.erase o,hl⟩;rw[←hl]
   conv=>lhs;unfold ordE
   rw[hf,←e3,e2]
def putS (x:Int):List Int→List Int
 | []=>[x]
 | y::r=>if x<y then x::y::r else if x=y then y::r else y::putS x r
theorem putS_mem {x z:Int}:∀{l:List Int},z∈putS x l↔z=x∨z∈l
 | []=>by simp[putS]
 | y::r=>by
   unfold putS;split
   · simp
   · split
     · next h=>subst h;simp
     · simp only[List.mem_cons,putS_mem];constructor
       · rintro(h | h | h)
         · exact .inr (.inl h)
         · exact .inl h
         · exact .inr (.inr h)
       · rintro(h | h | h)
         · exact .inr (.inl h)
         · exact .inl h
         · exact .inr (.inr h)
theorem putS_rise {x:Int}:∀{l:List Int},l.Pairwise (·<·)→(putS x l).Pairwise (·<·)
 | [],_=>by simp[putS]
 | y::r,h=>by
   obtain⟨h1,h2⟩:=List.pairwise_cons.1 h;unfold putS;split
   · next hx =>
     refine List.pairwise_cons.2 ⟨fun z hz=>?_,h⟩;rcases List.mem_cons.1 hz with rfl | hz
     · exact hx
     · have:=h1 z hz;omega
   · split
     · exact h
     · refine List.pairwise_cons.2 ⟨fun z hz=>?_,putS_rise h2⟩;rcases putS_mem.1 hz with rfl | hz
       · omega
       · exact h1 z hz
def jobsJ (l:List DoD):List Int:=l.foldl (fun js d=>putS d.job js) []
theorem jobs_fold:∀(l:List DoD) (js:List Int),js.Pairwise (·<·)→(l.foldl (fun js d=>putS d.job js) js).Pairwise (·<·)∧∀z,z∈l.foldl (fun js d=>putS d.job js) js↔z∈js∨∃d∈l,d.job=z
 | [],js,h=>⟨h,fun z=>by simp⟩
 | d::r,js,h=>by
   obtain⟨h1,h2⟩:=jobs_fold r (putS d.job js) (putS_rise h);refine⟨h1,fun z=>?_⟩;rw[List.foldl_cons,h2 z,putS_mem];constructor
   · rintro((h | h) | ⟨d',hd,h⟩)
     · exact .inr ⟨d,by simp,h.symm⟩
     · exact .inl h
     · exact .inr ⟨d',List.mem_cons_of_mem _ hd,h⟩
   · rintro(h | ⟨d',hd,h⟩)
     · exact .inl (.inr h)
     · rcases List.mem_cons.1 hd with rfl | hd
       · exact .inl (.inl h.symm)
       · exact .inr ⟨d',hd,h⟩
theorem jobs_rise (l:List DoD):(jobsJ l).Pairwise (·<·):=(jobs_fold l [] List.Pairwise.nil).1
theorem jobs_mem {l:List DoD} {z:Int}:z∈jobsJ l↔∃d∈l,d.job=z:=by
 have:=(jobs_fold l [] List.Pairwise.nil).2 z;unfold jobsJ;rw[this];simp
theorem rise_nodup {l:List Int} (h:l.Pairwise (·<·)):l.Nodup:=h.imp fun {a b} hab=>by omega
theorem rise_one:∀{a b:List Int},a.Pairwise (·<·)→b.Pairwise (·<·)→(∀z,z∈a↔z∈b)→a=b
 | [],[],_,_,_=>rfl
 | [],y::r,_,_,h=>by have:=(h y).2 (by simp);cases this
 | x::r,[],_,_,h=>by have:=(h x).1 (by simp);cases this
 | x::r,y::s,ha,hb,h=>by
   obtain⟨ha1,ha2⟩:=List.pairwise_cons.1 ha;obtain⟨hb1,hb2⟩:=List.pairwise_cons.1 hb
   have hxy:x=y:=by
    have h1:=(h x).1 (by simp);have h2:=(h y).2 (by simp);rcases List.mem_cons.1 h1 with e | h1
    · exact e
    · rcases List.mem_cons.1 h2 with e | h2
      · exact e.symm
      · have:=hb1 x h1;have:=ha1 y h2;omega
   subst hxy
   congr 1
   refine rise_one ha2 hb2 fun z=>⟨fun hz=>?_,fun hz=>?_⟩
   · rcases List.mem_cons.1 ((h z).1 (List.mem_cons_of_mem _ hz)) with e | h1
     · have:=ha1 z hz;omega
     · exact h1
   · rcases List.mem_cons.1 ((h z).2 (List.mem_cons_of_mem _ hz)) with e | h1
     · have:=hb1 z hz;omega
     · exact h1
noncomputable def edgeE (l:List DoD) (a b:Int):Bool:=decide (a≠b)&&edgeB l a b
noncomputable def orderJ (l:List DoD):Option (List Int):=ordE (edgeE l) (jobsJ l).length (jobsJ l)
theorem order_fit {l:List DoD} {os:List Int} (h:orderJ l=some os):fitJ os l:=by
 refine ordE_fit _ _ _ _ rfl (fun d hd=>jobs_mem.2 ⟨d,hd,rfl⟩) (fun a b hab hE=>?_) h;unfold edgeE at hE;rw[decide_eq_true hab,Bool.true_and]at hE;exact hE
theorem order_perm {l:List DoD} {os:List Int} (h:orderJ l=some os):os.Perm (jobsJ l):=ordE_perm _ _ _ rfl h
theorem order_nodup {l:List DoD} {os:List Int} (h:orderJ l=some os):os.Nodup:=(order_perm h).nodup_iff.2 (rise_nodup (jobs_rise l))
theorem order_mem {l:List DoD} {os:List Int} (h:orderJ l=some os) {z:Int}:z∈os↔∃d∈l,d.job=z:=(order_perm h).mem_iff.trans jobs_mem
theorem order_ahead {l:List DoD} {os:List Int} {a b:Int} (h:orderJ l=some os) (hE:edgeE l a b=true):∃i j:Nat,i<j∧os[i]?=some a∧os[j]?=some b:=by
 have h1:=hE;unfold edgeE at h1;rw[Bool.and_eq_true]at h1;obtain⟨⟨x,hx,hxa⟩,y,hy,hyb⟩:=edge_mem h1.2;exact ordE_ahead _ _ _ a b rfl hE (jobs_mem.2 ⟨x,hx,hxa⟩) (jobs_mem.2 ⟨y,hy,hyb⟩) h
theorem play_order {fs:List NodeD} {l:List DoD} {os:List Int} (h:orderJ l=some os) (hsz:fs.length+l.length≤120) (h0:(playB fs l).1=0) :
 (playB fs (arrB os l)).1=0∧(playB fs (arrB os l)).2.2=(playB fs l).2.2∧(arrB os l).length=l.length:=by
 obtain⟨h1,h2,h3⟩:=play_parts h0;have hf:=order_fit h;rw[h3]at h0 ⊢;rw[play_of h1 (arr_doings h2 hf)];obtain⟨a,b⟩:=rep_arr os l fs 0 0 h1 (fun d hd=>((doings_all h2).2 d hd).2) hsz hf h0;exact⟨a,b,arr_len os l hf⟩
end Go.Proofs.YtlicffeicmoifaaGreatDoor
namespace Go.Proofs.YtlicffeicmoifaaGreatDoor
open Go.RowKit
set_option linter.unusedVariables false
set_option linter.unusedSimpArgs false
theorem edge_cons {x:DoD} {r:List DoD} {a b:Int}:edgeB (x::r) a b=true↔(x.job=a∧∃y∈r,y.job=b∧confB x.ev y.ev=true)∨edgeB r a b=true:=by
 conv=>lhs;unfold edgeB
 simp only[Bool.or_eq_true,Bool.and_eq_true,decide_eq_true_eq,List.any_eq_true]
theorem edgeE_iff {l:List DoD} {a b:Int}:edgeE l a b=true↔a≠b∧edgeB l a b=true:=by
 unfold edgeE;rw[Bool.and_eq_true,decide_eq_true_eq]
noncomputable def rawIn (b:DoD):List DoD→List (Int × Int)
 | []=>[]
 | a::r=>if (decide (a.job≠b.job)&&confB a.ev b.ev)=true then (a.job,b.job)::rawIn b r else rawIn b r
noncomputable def rawJ:List DoD→List DoD→List (Int × Int)
 | _,[]=>[]
 | pre,b::r=>rawIn b pre++rawJ (pre++[b]) r
theorem rawIn_mem {b:DoD} {x y:Int}:∀{l:List DoD},(x,y)∈rawIn b l↔x≠y∧b.job=y∧∃a∈l,a.job=x∧confB a.ev b.ev=true
 | []=>by simp[rawIn]
 | a::r=>by
   have ih:=rawIn_mem (b:=b) (x:=x) (y:=y) (l:=r);unfold rawIn;split
   · next h =>
     rw[Bool.and_eq_true,decide_eq_true_eq]at h;rw[List.mem_cons,ih];constructor
     · rintro(e | ⟨h1,h2,a',h3,h4⟩)
       · injection e with e1 e2;exact⟨by rw[e1,e2];exact h.1,e2.symm,a,by simp,e1.symm,h.2⟩
       · exact⟨h1,h2,a',List.mem_cons_of_mem _ h3,h4⟩
     · rintro⟨h1,h2,a',h3,h4,h5⟩;rcases List.mem_cons.1 h3 with e | h3
       · subst e;exact .inl (by rw[←h4,←h2])
       · exact .inr ⟨h1,h2,a',h3,h4,h5⟩
   · next h =>
     rw[ih];constructor
     · rintro⟨h1,h2,a',h3,h4⟩;exact⟨h1,h2,a',List.mem_cons_of_mem _ h3,h4⟩
     · rintro⟨h1,h2,a',h3,h4,h5⟩;rcases List.mem_cons.1 h3 with e | h3
       · subst e;refine absurd ?_ h;rw[h5,Bool.and_true,decide_eq_true_eq,h4,h2];exact h1
       · exact⟨h1,h2,a',h3,h4,h5⟩
theorem rawJ_mem {x y:Int}:∀{l pre:List DoD},(x,y)∈rawJ pre l↔x≠y∧((∃a∈pre,a.job=x∧∃b∈l,b.job=y∧confB a.ev b.ev=true)∨edgeB l x y=true)
 | [],pre=>by simp[rawJ,edgeB]
 | b::r,pre=>by
   have ih:=rawJ_mem (x:=x) (y:=y) (l:=r) (pre:=pre++[b]);show(x,y)∈rawIn b pre++rawJ (pre++[b]) r↔_;rw[List.mem_append,rawIn_mem,ih,edge_cons];constructor
   · rintro(⟨h1,h2,a,h3,h4,h5⟩ | ⟨h1,h2⟩)
     · exact⟨h1,.inl ⟨a,h3,h4,b,by simp,h2,h5⟩⟩
     · refine⟨h1,?_⟩;rcases h2 with ⟨a,h3,h4,b',h5,h6⟩ | h2
       · rcases List.mem_append.1 h3 with h3 | h3
         · exact .inl ⟨a,h3,h4,b',List.mem_cons_of_mem _ h5,h6⟩
         · rw[List.mem_singleton]at h3;subst h3;exact .inr (.inl ⟨h4,b',h5,h6⟩)
       · exact .inr (.inr h2)
   · rintro⟨h1,h2⟩;rcases h2 with ⟨a,h3,h4,b',h5,h6,h7⟩ | ⟨h4,b',h5,h6⟩ | h2
     · rcases List.mem_cons.1 h5 with e | h5
       · subst e;exact .inl ⟨h1,h6,a,h3,h4,h7⟩
       · exact .inr ⟨h1,.inl ⟨a,List.mem_append_left _ h3,h4,b',h5,h6,h7⟩⟩
     · exact .inr ⟨h1,.inl ⟨b,by simp,h4,b',h5,h6⟩⟩
     · exact .inr ⟨h1,.inr h2⟩
theorem raw_edges {l:List DoD} {x y:Int}:(x,y)∈rawJ [] l↔edgeE l x y=true:=by
 rw[rawJ_mem,edgeE_iff];simp
noncomputable def edgR (l:List DoD) (a:Int) (bs:List Int):List (Int × Int):=(bs.filter fun b=>edgeE l a b).map fun b=>(a,b)
noncomputable def edgesR (l:List DoD):List (Int × Int):=[1,2,3,4].flatMap fun a=>edgR l a [1,2,3,4]
theorem job_four {l:List DoD} (h:doingsB l=true) {d:DoD} (hd:d∈l):d.job∈([1,2,3,4]:List Int):=by
 have:=((doings_all h).2 d hd).1;simp only[List.mem_cons,List.not_mem_nil,or_false];omega
theorem edgesR_mem {l:List DoD} (h:doingsB l=true) {x y:Int}:(x,y)∈edgesR l↔edgeE l x y=true:=by
 unfold edgesR edgR;rw[List.mem_flatMap];constructor
 · rintro⟨a,_,h1⟩;obtain⟨b,h2,h3⟩:=List.mem_map.1 h1;injection h3 with e1 e2;subst e1 e2;exact(List.mem_filter.1 h2).2
 · intro hE;obtain⟨⟨a,ha,rfl⟩,b,hb,rfl⟩:=edge_mem (edgeE_iff.1 hE).2;exact⟨a.job,job_four h ha,List.mem_map.2 ⟨b.job,List.mem_filter.2 ⟨job_four h hb,hE⟩,rfl⟩⟩
theorem free_edges {E:Int→Int→Bool} {es:List (Int × Int)} (hE:∀a b,(a,b)∈es↔E a b=true) (left:List Int) (o:Int):(!(es.any fun e=>decide (e.2=o)&&decide (e.1∈left)))=freeQ E left o:=by
 rw[Bool.eq_iff_iff];unfold freeQ;rw[Bool.not_eq_true',List.any_eq_false,List.all_eq_true];constructor
 · intro h a ha;cases hf:E a o
   · rfl
   · exact absurd (by simpa using ha) (h (a,o) ((hE a o).2 hf))
 · rintro h ⟨a,b⟩ hab hq;simp only[Bool.and_eq_true,decide_eq_true_eq]at hq;obtain⟨rfl,h2⟩:=hq;have h3:=h a h2;rw[(hE a b).1 hab]at h3;cases h3
end Go.Proofs.YtlicffeicmoifaaGreatDoor
namespace Go.Proofs.YtlicffeicmoifaaGreatDoor
open Go.RowKit
set_option linter.unusedVariables false
set_option linter.unusedSimpArgs false
def lastJ (x:Int):List Int→Int→Int→Int
 | [],_,c=>c
 | y::r,k,c=>lastJ x r (k+1) (if y=x then k else c)
theorem last_none {x:Int}:∀{l:List Int} {k c:Int},x ∉ l→lastJ x l k c=c
 | [],k,c,_=>rfl
 | y::r,k,c,h=>by have h1:y≠x:=fun e=>h (by rw[e];simp);show lastJ x r (k+1) (if y=x then k else c)=c;rw[if_neg h1];exact last_none fun hx=>h (List.mem_cons_of_mem _ hx)
theorem last_at {x:Int}:∀{l:List Int} {i:Nat} {k c:Int},l.Nodup→l[i]?=some x→lastJ x l k c=k+i
 | [],i,k,c,_,h=>by simp at h
 | y::r,0,k,c,hn,h=>by
   have e:y=x:=by simpa using h
   subst e;show lastJ y r (k+1) (if y=y then k else c)=k+(0:Nat);rw[if_pos rfl,last_none (List.nodup_cons.1 hn).1];simp
 | y::r,i+1,k,c,hn,h=>by
   have h':r[i]?=some x:=by simpa using h
   show lastJ x r (k+1) (if y=x then k else c)=k+((i+1:Nat):Int);rw[last_at (List.nodup_cons.1 hn).2 h'];omega
theorem order_test {l:List DoD} {os:List Int} {a b:Int} (h:orderJ l=some os) (hE:edgeE l a b=true):0≤lastJ a os 0 (-1)∧lastJ a os 0 (-1)<lastJ b os 0 (-1):=by
 obtain⟨i,j,hij,hi,hj⟩:=order_ahead h hE;rw[last_at (order_nodup h) hi,last_at (order_nodup h) hj];omega
theorem rise_len:∀{l:List Int} {a b:Int},l.Pairwise (·<·)→(∀z∈l,a<z∧z≤b)→(l.length:Int)≤b-a∨l=[]
 | [],a,b,_,_=>.inr rfl
 | y::r,a,b,h,hb=>by
   obtain⟨h1,h2⟩:=List.pairwise_cons.1 h;have hy:=hb y (by simp);left;rcases rise_len (a:=y) (b:=b) h2 (fun z hz=>⟨h1 z hz,(hb z (List.mem_cons_of_mem _ hz)).2⟩) with h3 | h3
   · rw[List.length_cons];omega
   · subst h3;simp;omega
theorem jobs_len {l:List DoD} (h:doingsB l=true):(jobsJ l).length≤4:=by
 rcases rise_len (a:=0) (b:=4) (jobs_rise l) (fun z hz=>by
  obtain⟨d,hd,rfl⟩:=jobs_mem.1 hz;have:=((doings_all h).2 d hd).1
  omega) with h1 | h1
 · omega
 · rw[h1];simp
theorem order_len {l:List DoD} {os:List Int} (h:doingsB l=true) (ho:orderJ l=some os):os.length≤4:=by
 rw[(order_perm ho).length_eq];exact jobs_len h
theorem order_job {l:List DoD} {os:List Int} (h:doingsB l=true) (ho:orderJ l=some os):∀z∈os,1≤z∧z≤4:=fun z hz=>by
 obtain⟨d,hd,rfl⟩:=(order_mem ho).1 hz;exact((doings_all h).2 d hd).1
theorem order_once {os:List Int} (h:os.Nodup) {k:Nat} {x:Int} (hk:os[k]?=some x):x ∉ os.take k:=fun hx=>by
 obtain⟨j,hj⟩:=List.mem_iff_getElem?.1 hx;rw[List.getElem?_take]at hj;split at hj
 · next h1=>have e1:=last_at (k:=0) (c:=-1) h hj;have e2:=last_at (k:=0) (c:=-1) h hk;omega
 · cases hj
noncomputable def arrangedB (os:List Int) (l:List DoD):List DoD:=os.flatMap fun o=>ofJ o l
theorem arranged_eq {l:List DoD} {os:List Int} (ho:orderJ l=some os):arrangedB os l=arrB os l:=(arr_flat os l (order_nodup ho)).symm
noncomputable def arrOkB (os:List Int) (l:List DoD):Prop:=os.length≤4∧(∀z∈os,1≤z∧z≤4)∧os.Nodup∧∀d∈l,d.job∈os
theorem arranged_ok {l:List DoD} {os:List Int} (h:doingsB l=true) (ho:orderJ l=some os):arrOkB os l∧(arrangedB os l).length=l.length:=by
 refine⟨⟨order_len h ho,order_job h ho,order_nodup ho,fun d hd=>(order_mem ho).2 ⟨d,hd,rfl⟩⟩,?_⟩;rw[arranged_eq ho];exact arr_len os l (order_fit ho)
end Go.Proofs.YtlicffeicmoifaaGreatDoor
namespace Go.Proofs.YtlicffeicmoifaaGreatDoor
open Go.RowKit
set_option linter.unusedVariables false
set_option linter.unusedSimpArgs false
theorem arr_at {α:Type} [Inhabited α] (L:List α) (j:Nat) (hj:j<L.length):L.toArray[j]! =L[j]:=by simp[getElem!_pos,hj]
theorem compact_mem {α:Type} [Inhabited α] [DecidableEq α] {L:List α} {z:α}:z∈Lib.compact L↔z∈L:=by
 unfold Lib.compact Lib.compactUpTo;rw[List.mem_map];constructor
 · rintro⟨i,hi,rfl⟩;have hi':=List.mem_range.1 (List.mem_filter.1 hi).1;rw[arr_at L i hi'];exact List.getElem_mem hi'
 · intro hz;obtain⟨j,hj,rfl⟩:=List.getElem_of_mem hz;clear hz
   induction j with
   | zero=>exact⟨0,List.mem_filter.2 ⟨List.mem_range.2 hj,by simp[Lib.keeps]⟩,arr_at L 0 hj⟩
   | succ j ih =>
     have hj':j<L.length:=by omega
     by_cases hk:Lib.keeps L.toArray (j+1)=true
     · exact⟨j+1,List.mem_filter.2 ⟨List.mem_range.2 hj,hk⟩,arr_at L (j+1) hj⟩
     · have e:L[j+1]=L[j]:=by
        by_cases he:L.toArray[j+1]! =L.toArray[j+1-1]!
        · have h1:=he;rw[arr_at L (j+1) hj]at h1;rw[h1];exact arr_at L j hj'
        · exact absurd (Lib.keeps_pos he) hk
       rw[e];exact ih hj'
theorem compact_rise {L:List Int} (h:L.Pairwise (·≤·)):(Lib.compact L).Pairwise (·<·):=by
 unfold Lib.compact Lib.compactUpTo;rw[List.pairwise_map];have hr:(List.range L.length).Pairwise (·<·):=List.pairwise_lt_range;refine List.Pairwise.imp_of_mem ?_ (hr.filter _);intro i j hi hj hij;obtain⟨hi1,_⟩:=List.mem_filter.1 hi;obtain⟨hj1,hk⟩:=List.mem_filter.1 hj;have hi2:=List.mem_range.1 hi1;have hj2:=List.mem_range.1 hj1;rw[arr_at L i hi2,arr_at L j hj2];have hj3:j-1<L.length:=by omega
 have hne:L[j]≠L[j-1]:=fun e=>by
  unfold Lib.keeps at hk;rw[decide_eq_true_iff]at hk;rcases hk with hk | hk
  · omega
  · apply hk;rw[arr_at L j hj2,arr_at L (j-1) hj3];exact e
 rw[List.pairwise_iff_getElem]at h;have h1:L[j-1]≤L[j]:=h (j-1) j hj3 hj2 (by omega)
 have h2:L[i]≤L[j-1]:=by
  by_cases e:i=j-1
  · subst e;exact Int.le_refl _
  · exact h i (j-1) hi2 hj3 (by omega)
 omega
theorem jobs_compact {l:List DoD} {L:List Int} (hp:L.Perm (l.map DoD.job)) (hs:L.Pairwise (·≤·)):Lib.compact L=jobsJ l :=
 rise_one (compact_rise hs) (jobs_rise l) fun z=>by rw[compact_mem,hp.mem_iff,jobs_mem,List.mem_map]
end Go.Proofs.YtlicffeicmoifaaGreatDoor
namespace Go.Proofs.YtlicffeicmoifaaGreatDoor
open Go.RowKit
set_option linter.unusedVariables false
set_option linter.unusedSimpArgs false
def PutI (x:Int) (zs:List Int) (k:Nat) (b:Bool) (ys:List Int):Prop:=if b=true then ys++zs.drop k=putS x zs else ys=zs.take k∧putS x zs=zs.take k++putS x (zs.drop k)
section
variable {x:Int} {zs ys:List Int} {k:Nat}
theorem put_start:PutI x zs 0 false []:=by
 unfold PutI;simp
theorem drop_at (hk:k<zs.length):zs.drop k=zs.getD k 0::zs.drop (k+1):=by
 rw[List.drop_eq_getElem_cons hk,List.getD_eq_getElem?_getD,List.getElem?_eq_getElem hk];rfl
theorem take_at (hk:k<zs.length):zs.take (k+1)=zs.take k++[zs.getD k 0]:=by
 rw[List.take_add_one,List.getElem?_eq_getElem hk,List.getD_eq_getElem?_getD,List.getElem?_eq_getElem hk];rfl
theorem put_ins (h:PutI x zs k false ys) (hk:k<zs.length) (hx:x<zs.getD k 0):PutI x zs (k+1) true (ys++[x]++[zs.getD k 0]):=by
 unfold PutI at h ⊢;rw[if_neg (by simp)]at h;rw[if_pos rfl];obtain⟨h1,h2⟩:=h;rw[h2,h1,drop_at hk];unfold putS;rw[if_pos hx];simp
theorem put_eq (h:PutI x zs k false ys) (hk:k<zs.length) (hx:x=zs.getD k 0):PutI x zs (k+1) true (ys++[zs.getD k 0]):=by
 unfold PutI at h ⊢;rw[if_neg (by simp)]at h;rw[if_pos rfl];obtain⟨h1,h2⟩:=h;rw[h2,h1,drop_at hk];unfold putS;rw[if_neg (by omega),if_pos hx];simp
theorem put_pass (h:PutI x zs k false ys) (hk:k<zs.length) (hx:zs.getD k 0<x):PutI x zs (k+1) false (ys++[zs.getD k 0]):=by
 unfold PutI at h ⊢;rw[if_neg (by simp)]at h ⊢;obtain⟨h1,h2⟩:=h;rw[drop_at hk]at h2;refine⟨by rw[take_at hk,h1],?_⟩;rw[h2,take_at hk]
 conv=>lhs;unfold putS
 rw[if_neg (by omega),if_neg (by omega)];simp
theorem put_rest (h:PutI x zs k true ys) (hk:k<zs.length):PutI x zs (k+1) true (ys++[zs.getD k 0]):=by
 unfold PutI at h ⊢;rw[if_pos rfl]at h ⊢;rw[←h,drop_at hk];simp
theorem put_end0 (h:PutI x zs zs.length false ys):ys++[x]=putS x zs:=by
 unfold PutI at h;rw[if_neg (by simp)]at h;obtain⟨h1,h2⟩:=h;rw[h2,h1];simp[putS]
theorem put_end1 (h:PutI x zs zs.length true ys):ys=putS x zs:=by
 unfold PutI at h;rw[if_pos rfl]at h;simpa using h
end
end Go.Proofs.YtlicffeicmoifaaGreatDoor
namespace Go.Proofs.YtlicffeicmoifaaGreatDoor
open Go.RowKit
set_option linter.unusedVariables false
def edL (e:Int × Int):List Value:=[.int .i64 e.1,.int .i64 e.2]
def edC (es:List (Int × Int)):List Value:=es.flatMap edL
theorem edC_len:∀es:List (Int × Int),(edC es).length=es.length*2
 | []=>rfl
 | e::r=>by have:=edC_len r;have e1:edC (e::r)=Value.int .i64 e.1::Value.int .i64 e.2::edC r:=rfl;rw[e1,List.length_cons,List.length_cons,List.length_cons,this];omega
theorem edC_snoc (es:List (Int × Int)) (e:Int × Int):edC (es++[e])=edC es++edL e:=by simp[edC]
theorem edC_at:∀(es:List (Int × Int)) (j:Nat),j<es.length→(edC es)[j*2]?=some (.int .i64 (es.getD j default).1)∧(edC es)[j*2+1]?=some (.int .i64 (es.getD j default).2)
 | [],j,h=>by simp at h
 | e::r,0,_=>⟨rfl,rfl⟩
 | e::r,j+1,h=>by have:=edC_at r j (by simpa using h);have e1:edC (e::r)=Value.int .i64 e.1::Value.int .i64 e.2::edC r:=rfl;rw[e1,show(j+1)*2=j*2+2 by omega,List.getD_cons_succ];exact this
def Eds (w:World) (B:Nat) (A:Option Addr) (n:Nat) (es:List (Int × Int)):Prop :=
 es.length=n∧(0<n→∃b o,A=some ⟨b,o,none⟩∧b<B∧∀j,j<n→w.cell? ⟨b,o+j*2,none⟩=some (.int .i64 (es.getD j default).1)∧w.cell? ⟨b,o+j*2+1,none⟩=some (.int .i64 (es.getD j default).2))
theorem Eds.keep {w w':World} {B n:Nat} {A:Option Addr} {es:List (Int × Int)} (h:Eds w B A n es) (hk:∀p:Addr,p.block<B→w'.cell? p=w.cell? p):Eds w' B A n es :=
 ⟨h.1,fun hn=>by
   obtain⟨b,o,e,hb,hc⟩:=h.2 hn
   exact⟨b,o,e,hb,fun j hj=>⟨(hk _ hb).trans (hc j hj).1,(hk _ hb).trans (hc j hj).2⟩⟩⟩
theorem Eds.more {w:World} {B B' n:Nat} {A:Option Addr} {es:List (Int × Int)} (h:Eds w B A n es) (hB:B≤B'):Eds w B' A n es :=
 ⟨h.1,fun hn=>by
   obtain⟨b,o,e,hb,hc⟩:=h.2 hn
   exact⟨b,o,e,by omega,hc⟩⟩
theorem Eds.later {w w':World} {n:Nat} {A:Option Addr} {es:List (Int × Int)} (h:Eds w w.heap.size A n es) (hb:Below w.heap.size w w'):Eds w' w'.heap.size A n es:=(h.keep fun _ hp=>hb.cell hp).more hb.size
theorem eds_own {w:World} {base:Nat} {v:Value} {es:List (Int × Int)} (h:w.ownsRow base 48 2 v es.length (edC es)):∃A cap,v=.slice A es.length cap∧es.length≤cap∧Eds w w.heap.size A es.length es:=by
 obtain⟨A,cap,rfl,hc,_,hA⟩:=Own.own_slice h;refine⟨A,cap,rfl,hc,rfl,fun hn=>?_⟩;obtain⟨g,rfl,hg,_⟩:=hA hn;refine⟨g,0,rfl,hg,fun j hj=>?_⟩;obtain⟨h1,h2⟩:=edC_at es j hj;rw[Nat.zero_add];exact⟨Own.own_cell h _ _ (by omega) h1,Own.own_cell h _ _ (by omega) h2⟩
theorem oneCells_int (zs:List Int):∀u∈zs.map (Value.int .i64),u.oneCell'=true:=by
 intro u hu;obtain⟨s,_,rfl⟩:=List.mem_map.1 hu;rfl
theorem infoI64:(Tryz.prog.info? 2).map (fun i=>(i.zero,i.size,i.bytes))=some (some (.int .i64 0),1,8):=by kernel_rfl
theorem infoEdge:(Tryz.prog.info? 48).map (fun i=>(i.zero,i.size,i.bytes))=some (some (.agg #[.int .i64 0,.int .i64 0]),2,16):=by kernel_rfl
end Go.Proofs.YtlicffeicmoifaaGreatDoor
