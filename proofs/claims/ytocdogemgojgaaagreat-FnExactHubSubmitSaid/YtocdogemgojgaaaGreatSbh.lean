/- Submit: what both walks lean on, in plain Lean. -/
import Derived.Test.YtocdogemgojgaaaGreatTdn
import Derived.Test.YtocdogemgojgaaaGreatSfd
import Derived.Test.YtocdogemgojgaaaGreatSeen
import Derived.Test.YtocdogemgojgaaaGreatDcp
namespace Go.Proofs.YtocdogemgojgaaaGreat
open Go.RowKit
theorem seen_rd (w:World)(s:DSeen):GoT.rd BIG w [.int .i64 s.client,.int .i64 s.seq,.int .i64 s.rev] s []:=⟨rfl,rfl⟩
theorem rdSeen_fp3 {M:Nat}{w:World}{c:List Value}{x:DSeen}{f:List Pos}(h:GoT.rd M w c x f):f=[]:=h.2
theorem out_doc0 {w0 j:World}{n m:Int}(hb:Below w0.heap.size w0 j):Out_Doc_i_i w0 doc0 n m (.returned (.tuple #[.agg #[.string ⟨#[]⟩,.int .i64 0,.slice none 0 0,.slice none 0 0,.slice none 0 0],.int .i64 n,.int .i64 m])) j:=
 ⟨_,_,_,[],[],[],rfl,Sl.nil,Sl.nil,Sl.nil,by decide,Fresh.nil _ _,hb⟩
section
variable {d:DDoc} {client seq base:Int} {o:List DPart}
theorem submit_no (h:¬(docOk d=true/\within client 1 8=true/\within seq 1 1000000000=true/\opOk o=true)):submit d client seq base o=(doc0,0,1):=if_neg h
variable (h:docOk d=true/\within client 1 8=true/\within seq 1 1000000000=true/\opOk o=true)
include h
theorem submit_same (j:(seenOf d client).1.seq=seq):submit d client seq base o=(d,(seenOf d client).1.rev,0):=by unfold submit;rw[if_pos h,if_pos j]
theorem submit_seq (j:¬(seenOf d client).1.seq=seq)(n:¬(seenOf d client).1.seq+1=seq):submit d client seq base o=(doc0,0,4):=by unfold submit;rw[if_pos h,if_neg j,if_neg n]
theorem submit_code (j:¬(seenOf d client).1.seq=seq)(n:(seenOf d client).1.seq+1=seq)(p:¬(rebase d base o).2=0):submit d client seq base o=(doc0,0,(rebase d base o).2):=by unfold submit;rw[if_pos h,if_neg j,if_pos n,if_neg p]
theorem submit_large (j:¬(seenOf d client).1.seq=seq)(n:(seenOf d client).1.seq+1=seq)(p:(rebase d base o).2=0)(q:¬headRev d<999999000):submit d client seq base o=(doc0,0,5):=by unfold submit;rw[if_pos h,if_neg j,if_pos n,if_pos p,if_neg q]
theorem submit_yes (j:¬(seenOf d client).1.seq=seq)(n:(seenOf d client).1.seq+1=seq)(p:(rebase d base o).2=0)(q:headRev d<999999000):submit d client seq base o=(commit d client seq (rebase d base o).1,headRev d+1,0):=by unfold submit;rw[if_pos h,if_neg j,if_pos n,if_pos p,if_pos q]
end
theorem seenOf_bd {d:DDoc}(h:docOk d=true)(client:Int):0<=(seenOf d client).1.seq/\(seenOf d client).1.seq<=1000000000/\((seenOf d client).2=false->(seenOf d client).1.seq=0):=by
 unfold seenOf;rcases hf:d.seen.find? (fun s=>decide (s.client=client))with _|s
 ·rw[hf];exact⟨Int.le_refl _,by show(0:Int)<=1000000000;decide,fun _=>rfl⟩
 ·have p:=List.mem_of_find?_eq_some hf;obtain⟨k,n⟩:=List.getElem?_of_mem p;have j:=seenOk_iff.1 (docOk_iff.1 h).seen k s n;unfold seenI at j;simp only[Bool.and_eq_true]at j;have:=within_iff.1 j.1.1.2;rw[hf];exact⟨by show 0<=s.seq;omega,by show s.seq<=1000000000;omega,fun h=>by cases h⟩
theorem docOk_szs {d:DDoc}(h:docOk d=true):d.text.length<=4000000/\szL d.list<=4000000/\d.seen.length<=4000000:=⟨by have:=(docOk_iff.1 h).tlen;omega,by have:=(docOk_iff.1 h).sz;omega,by have:=(docOk_iff.1 h).slen;omega⟩
theorem seenSet_cnt (s:DSeen):∀l:List DSeen,cntL (seenSet l s)<=cntL l+GoM.cnt s
 |[]=>by simp[seenSet,cntL]
 |y::l=>by
  have j:=seenSet_cnt s l;unfold seenSet;split
  ·simp only[cntL];omega
  ·split
   ·simp only[cntL];omega
   ·simp only[cntL];omega
theorem commit_cnt (d:DDoc)(client seq:Int)(x:List DPart)(z:opOk x=true):cntL (commit d client seq x).text+(cntL (commit d client seq x).list+cntL (commit d client seq x).seen)<=5*(200+szL d.text+szL d.list+szL d.seen)+603100:=by
 have J:=cntL_le d.text;have M:=cntL_le d.list;have N:=cntL_le d.seen;have n:=opOk_iff'.1 z;have Y:=parts_szL n.1;have R:=cntL_le [entry1 client seq x];have D:szL [entry1 client seq x]=1+GoS.sz (entry1 client seq x):=by simp[szL,szs]
 have I:GoS.sz (entry1 client seq x)=szL x:=rfl;have Q:=cntL_append d.list [entry1 client seq x];have U:=seenSet_cnt ⟨client,seq,headRev d+1⟩ d.seen;have p:GoM.cnt (⟨client,seq,headRev d+1⟩:DSeen)<=5:=by
  have h:=cntL_le [(⟨client,seq,headRev d+1⟩:DSeen)];have e:cntL [(⟨client,seq,headRev d+1⟩:DSeen)]=GoM.cnt (⟨client,seq,headRev d+1⟩:DSeen):=by simp[cntL]
  have B:szL [(⟨client,seq,headRev d+1⟩:DSeen)]=1:=rfl;omega
 have q:=cntL_le (applyP ((d.list++[entry1 client seq x]).headD ⟨0,0,[]⟩).o d.text).1;have u:=applyP_len ((d.list++[entry1 client seq x]).headD ⟨0,0,[]⟩).o d.text;rw[szL_int]at q;have j:=cntL_append ((d.list++[entry1 client seq x]).take 1) ((d.list++[entry1 client seq x]).drop 1);rw[List.take_append_drop]at j;unfold commit;split<;>simp only<;>omega
theorem submit_cnt (d:DDoc)(client seq base:Int)(o:List DPart):cntL (submit d client seq base o).1.text+(cntL (submit d client seq base o).1.list+cntL (submit d client seq base o).1.seen)<=5*(200+szL d.text+szL d.list+szL d.seen)+603100:=by
 have n:=cntL_le d.text;have p:=cntL_le d.list;have q:=cntL_le d.seen;have hd:cntL doc0.text+(cntL doc0.list+cntL doc0.seen)=0:=by simp[doc0,cntL]
 unfold submit;split
 ·split
  ·simp only;omega
  ·split
   ·split
    ·rename_i j
     split
     ·exact commit_cnt d client seq _ (rebase_ok j).1
     ·simp only;omega
    ·simp only;omega
   ·simp only;omega
 ·simp only;omega
