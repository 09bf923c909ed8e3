import Derived.Test.YthkpckgcgkijbaaGreatDoorTexD
set_option linter.unusedVariables false
set_option linter.unusedSimpArgs false
set_option maxRecDepth 100000
set_option maxHeartbeats 2000000
namespace Go.Proofs.YthkpckgcgkijbaaGreatDoor
open Go.RowKit Go.Proofs.Lexi
theorem pSettle_val (w:World) (nk vk vp vq:Int) (vs:ByteArray) (vr fk fp fq:Int) (fs:ByteArray) (fr:Int) (av:Value) (na:Int) (ns:ByteArray) (so:Option Addr) (n cap:Nat) (h1:(nk==1)=true):Calls Tryz.prog 24 #[.agg #[nk,vk,vp,vq,vs,vr,fk,fp,fq,fs,fr,av,na,ns],.slice so n cap] w (ValPost w ⟨vk,vp,vq,vs,vr⟩):=by
 go_enter Tryz.func24,Tryz.ntmps24
 go_wp2
 refine bodyPost_ret (by simp[results,Tryz.results24,go_sem];first|done|rfl) rfl ?_
 exact zAo rfl (zAF _ _ _)
theorem pSettle_no0 (w:World) (nk vk vp vq:Int) (vs:ByteArray) (vr fk fp fq:Int) (fs:ByteArray) (fr:Int) (av:Value) (na:Int) (ns:ByteArray) (so:Option Addr) (cap:Nat) (h1:(nk==1)=false) (h2:(nk !=2)=true):Calls Tryz.prog 24 #[.agg #[nk,vk,vp,vq,vs,vr,fk,fp,fq,fs,fr,av,na,ns],.slice so 0 cap] w (ValPost w V.nil):=by
 go_enter Tryz.func24,Tryz.ntmps24
 go_wp2
 refine bodyPost_ret (by simp[results,Tryz.results24,go_sem];first|done|rfl) rfl ?_
 exact zAo rfl (by first|exact zAL _ _ _ _|trace_state)
theorem pSettle_one0 (w:World) (nk vk vp vq:Int) (vs:ByteArray) (vr fk fp fq:Int) (fs:ByteArray) (fr:Int) (av:Value) (na:Int) (ns:ByteArray) (so:Option Addr) (cap:Nat) (h1:(nk==1)=false) (h2:(nk !=2)=false) (h3:(na==1)=true):Calls Tryz.prog 24 #[.agg #[nk,vk,vp,vq,vs,vr,fk,fp,fq,fs,fr,av,na,ns],.slice so 0 cap] w (ValPost w V.nil):=by
 go_enter Tryz.func24,Tryz.ntmps24
 go_wp2
 refine bodyPost_ret (by simp[results,Tryz.results24,go_sem];first|done|rfl) rfl ?_
 exact zAo rfl (by first|exact zAL _ _ _ _|trace_state)
theorem pSettle_other0 (w:World) (nk vk vp vq:Int) (vs:ByteArray) (vr fk fp fq:Int) (fs:ByteArray) (fr:Int) (av:Value) (na:Int) (ns:ByteArray) (so:Option Addr) (cap:Nat) (h1:(nk==1)=false) (h2:(nk !=2)=false) (h3:(na==1)=false) (h4:(na==2)=false) (h5:(na==3)=false):Calls Tryz.prog 24 #[.agg #[nk,vk,vp,vq,vs,vr,fk,fp,fq,fs,fr,av,na,ns],.slice so 0 cap] w (ValPost w V.nil):=by
 go_enter Tryz.func24,Tryz.ntmps24
 go_wp2
 refine bodyPost_ret (by simp[results,Tryz.results24,go_sem];first|done|rfl) rfl ?_
 exact zAo rfl (by first|exact zAL _ _ _ _|trace_state)
theorem pSettle_true0 (w:World) (nk vk vp vq:Int) (vs:ByteArray) (vr fk fp fq:Int) (fs:ByteArray) (fr:Int) (av:Value) (na:Int) (ns:ByteArray) (so:Option Addr) (cap:Nat) (h1:(nk==1)=false) (h2:(nk !=2)=false) (h3:(na==1)=false) (h4:(na==2)=true):Calls Tryz.prog 24 #[.agg #[nk,vk,vp,vq,vs,vr,fk,fp,fq,fs,fr,av,na,ns],.slice so 0 cap] w (ValPost w (boolV (trueV V.nil))):=by
 go_enter Tryz.func24,Tryz.ntmps24
 go_wp2_with fail
 refine(pTrue_c _ 0 0 0 ⟨#[]⟩ 0).mono ?_
 rintro e w1 ⟨rfl,hb⟩
 have Hu1:=hkh hb (zAY _ _ _ _)
 have HW1:=hbn (zAL _ _ _ _) hb
 have hz1:=hb.size
 try simp at hz1
 clear hb
 go_wp2_with fail
 refine(zBn _ _).mono ?_
 rintro e w2 ⟨rfl,hb⟩
 have Hu2:=hkh hb Hu1.out
 have HW2:=hbn HW1.out hb
 have hz2:=hb.size
 try simp at hz2
 clear hb
 have hyu:w.heap.size+1<w2.heap.size:=hsz Hu2
 obtain⟨u0,u1,u2,u3,u4⟩:=cells5 Hu2.out
 obtain⟨fu0,fu1,fu2,fu3,fu4⟩:=froz5 Hu2.out
 go_wp2
 refine bodyPost_ret (by simp[results,Tryz.results24,go_sem,hyu,u0,u1,u2,u3,u4];first|done|rfl) rfl ?_
 exact zAo rfl (zAH HW2.out (by omega) _ _ _ _ _)
theorem pSettle_false0 (w:World) (nk vk vp vq:Int) (vs:ByteArray) (vr fk fp fq:Int) (fs:ByteArray) (fr:Int) (av:Value) (na:Int) (ns:ByteArray) (so:Option Addr) (cap:Nat) (h1:(nk==1)=false) (h2:(nk !=2)=false) (h3:(na==1)=false) (h4:(na==2)=false) (h5:(na==3)=true):Calls Tryz.prog 24 #[.agg #[nk,vk,vp,vq,vs,vr,fk,fp,fq,fs,fr,av,na,ns],.slice so 0 cap] w (ValPost w (boolV (!trueV V.nil))):=by
 go_enter Tryz.func24,Tryz.ntmps24
 go_wp2_with fail
 refine(pTrue_c _ 0 0 0 ⟨#[]⟩ 0).mono ?_
 rintro e w1 ⟨rfl,hb⟩
 have Hu1:=hkh hb (zAY _ _ _ _)
 have HW1:=hbn (zAL _ _ _ _) hb
 have hz1:=hb.size
 try simp at hz1
 clear hb
 go_wp2_with fail
 refine(zBn _ _).mono ?_
 rintro e w2 ⟨rfl,hb⟩
 have Hu2:=hkh hb Hu1.out
 have HW2:=hbn HW1.out hb
 have hz2:=hb.size
 try simp at hz2
 clear hb
 have hyu:w.heap.size+1<w2.heap.size:=hsz Hu2
 obtain⟨u0,u1,u2,u3,u4⟩:=cells5 Hu2.out
 obtain⟨fu0,fu1,fu2,fu3,fu4⟩:=froz5 Hu2.out
 go_wp2
 refine bodyPost_ret (by simp[results,Tryz.results24,go_sem,hyu,u0,u1,u2,u3,u4];first|done|rfl) rfl ?_
 exact zAo rfl (zAH HW2.out (by omega) _ _ _ _ _)
theorem pSettle_nox (w:World) (nk vk vp vq:Int) (vs:ByteArray) (vr fk fp fq:Int) (fs:ByteArray) (fr:Int) (av:Value) (na:Int) (ns:ByteArray) (g o n cap:Nat) (hg:g<w.heap.size) (hn:0<n) (xk xp xq:Int) (xs:ByteArray) (xr:Int) (x0:w.cell? ⟨g,o,none⟩=some (.int .i64 xk)) (x1:w.cell? ⟨g,o+1,none⟩=some (.int .i64 xp)) (x2:w.cell? ⟨g,o+2,none⟩=some (.int .i64 xq)) (x3:w.cell? ⟨g,o+3,none⟩=some (.string xs)) (x4:w.cell? ⟨g,o+4,none⟩=some (.int .i64 xr)) (h1:(nk==1)=false) (h2:(nk !=2)=true):Calls Tryz.prog 24 #[.agg #[nk,vk,vp,vq,vs,vr,fk,fp,fq,fs,fr,av,na,ns],.slice (some ⟨g,o,none⟩) n cap] w (ValPost w V.nil):=by
 have hn1:((n:Nat):Int)>0:=by omega
 have hn2:decide ((0:Int)<(n:Nat))=true:=by rw[decide_eq_true_eq];omega
 have y0:(((w.alloc (.cells #[nk,vk,vp,vq,vs,vr,fk,fp,fq,fs,fr,av,na,ns] 43)).alloc (.cells #[.int .i64 0,.int .i64 0,.int .i64 0,.string ⟨#[]⟩,.int .i64 0] 25)).alloc (.cells #[.int .i64 0,.int .i64 0,.int .i64 0,.string ⟨#[]⟩,.int .i64 0] 25)).cell? ⟨g,o,none⟩=some (.int .i64 xk):=((zAL w _ _ _).cell (p:=⟨g,o,none⟩) hg).trans x0
 have y1:(((w.alloc (.cells #[nk,vk,vp,vq,vs,vr,fk,fp,fq,fs,fr,av,na,ns] 43)).alloc (.cells #[.int .i64 0,.int .i64 0,.int .i64 0,.string ⟨#[]⟩,.int .i64 0] 25)).alloc (.cells #[.int .i64 0,.int .i64 0,.int .i64 0,.string ⟨#[]⟩,.int .i64 0] 25)).cell? ⟨g,o+1,none⟩=some (.int .i64 xp):=((zAL w _ _ _).cell (p:=⟨g,o+1,none⟩) hg).trans x1
 have y2:(((w.alloc (.cells #[nk,vk,vp,vq,vs,vr,fk,fp,fq,fs,fr,av,na,ns] 43)).alloc (.cells #[.int .i64 0,.int .i64 0,.int .i64 0,.string ⟨#[]⟩,.int .i64 0] 25)).alloc (.cells #[.int .i64 0,.int .i64 0,.int .i64 0,.string ⟨#[]⟩,.int .i64 0] 25)).cell? ⟨g,o+2,none⟩=some (.int .i64 xq):=((zAL w _ _ _).cell (p:=⟨g,o+2,none⟩) hg).trans x2
 have y3:(((w.alloc (.cells #[nk,vk,vp,vq,vs,vr,fk,fp,fq,fs,fr,av,na,ns] 43)).alloc (.cells #[.int .i64 0,.int .i64 0,.int .i64 0,.string ⟨#[]⟩,.int .i64 0] 25)).alloc (.cells #[.int .i64 0,.int .i64 0,.int .i64 0,.string ⟨#[]⟩,.int .i64 0] 25)).cell? ⟨g,o+3,none⟩=some (.string xs):=((zAL w _ _ _).cell (p:=⟨g,o+3,none⟩) hg).trans x3
 have y4:(((w.alloc (.cells #[nk,vk,vp,vq,vs,vr,fk,fp,fq,fs,fr,av,na,ns] 43)).alloc (.cells #[.int .i64 0,.int .i64 0,.int .i64 0,.string ⟨#[]⟩,.int .i64 0] 25)).alloc (.cells #[.int .i64 0,.int .i64 0,.int .i64 0,.string ⟨#[]⟩,.int .i64 0] 25)).cell? ⟨g,o+4,none⟩=some (.int .i64 xr):=((zAL w _ _ _).cell (p:=⟨g,o+4,none⟩) hg).trans x4
 go_enter Tryz.func24,Tryz.ntmps24
 go_wp2
 refine bodyPost_ret (by simp[results,Tryz.results24,go_sem];first|done|rfl) rfl ?_
 exact zAo rfl (by first|exact zAL _ _ _ _|trace_state)
theorem pSettle_onex (w:World) (nk vk vp vq:Int) (vs:ByteArray) (vr fk fp fq:Int) (fs:ByteArray) (fr:Int) (av:Value) (na:Int) (ns:ByteArray) (g o n cap:Nat) (hg:g<w.heap.size) (hn:0<n) (xk xp xq:Int) (xs:ByteArray) (xr:Int) (x0:w.cell? ⟨g,o,none⟩=some (.int .i64 xk)) (x1:w.cell? ⟨g,o+1,none⟩=some (.int .i64 xp)) (x2:w.cell? ⟨g,o+2,none⟩=some (.int .i64 xq)) (x3:w.cell? ⟨g,o+3,none⟩=some (.string xs)) (x4:w.cell? ⟨g,o+4,none⟩=some (.int .i64 xr)) (h1:(nk==1)=false) (h2:(nk !=2)=false) (h3:(na==1)=true):Calls Tryz.prog 24 #[.agg #[nk,vk,vp,vq,vs,vr,fk,fp,fq,fs,fr,av,na,ns],.slice (some ⟨g,o,none⟩) n cap] w (ValPost w ⟨xk,xp,xq,xs,xr⟩):=by
 have hn1:((n:Nat):Int)>0:=by omega
 have hn2:decide ((0:Int)<(n:Nat))=true:=by rw[decide_eq_true_eq];omega
 have y0:(((w.alloc (.cells #[nk,vk,vp,vq,vs,vr,fk,fp,fq,fs,fr,av,na,ns] 43)).alloc (.cells #[.int .i64 0,.int .i64 0,.int .i64 0,.string ⟨#[]⟩,.int .i64 0] 25)).alloc (.cells #[.int .i64 0,.int .i64 0,.int .i64 0,.string ⟨#[]⟩,.int .i64 0] 25)).cell? ⟨g,o,none⟩=some (.int .i64 xk):=((zAL w _ _ _).cell (p:=⟨g,o,none⟩) hg).trans x0
 have y1:(((w.alloc (.cells #[nk,vk,vp,vq,vs,vr,fk,fp,fq,fs,fr,av,na,ns] 43)).alloc (.cells #[.int .i64 0,.int .i64 0,.int .i64 0,.string ⟨#[]⟩,.int .i64 0] 25)).alloc (.cells #[.int .i64 0,.int .i64 0,.int .i64 0,.string ⟨#[]⟩,.int .i64 0] 25)).cell? ⟨g,o+1,none⟩=some (.int .i64 xp):=((zAL w _ _ _).cell (p:=⟨g,o+1,none⟩) hg).trans x1
 have y2:(((w.alloc (.cells #[nk,vk,vp,vq,vs,vr,fk,fp,fq,fs,fr,av,na,ns] 43)).alloc (.cells #[.int .i64 0,.int .i64 0,.int .i64 0,.string ⟨#[]⟩,.int .i64 0] 25)).alloc (.cells #[.int .i64 0,.int .i64 0,.int .i64 0,.string ⟨#[]⟩,.int .i64 0] 25)).cell? ⟨g,o+2,none⟩=some (.int .i64 xq):=((zAL w _ _ _).cell (p:=⟨g,o+2,none⟩) hg).trans x2
 have y3:(((w.alloc (.cells #[nk,vk,vp,vq,vs,vr,fk,fp,fq,fs,fr,av,na,ns] 43)).alloc (.cells #[.int .i64 0,.int .i64 0,.int .i64 0,.string ⟨#[]⟩,.int .i64 0] 25)).alloc (.cells #[.int .i64 0,.int .i64 0,.int .i64 0,.string ⟨#[]⟩,.int .i64 0] 25)).cell? ⟨g,o+3,none⟩=some (.string xs):=((zAL w _ _ _).cell (p:=⟨g,o+3,none⟩) hg).trans x3
 have y4:(((w.alloc (.cells #[nk,vk,vp,vq,vs,vr,fk,fp,fq,fs,fr,av,na,ns] 43)).alloc (.cells #[.int .i64 0,.int .i64 0,.int .i64 0,.string ⟨#[]⟩,.int .i64 0] 25)).alloc (.cells #[.int .i64 0,.int .i64 0,.int .i64 0,.string ⟨#[]⟩,.int .i64 0] 25)).cell? ⟨g,o+4,none⟩=some (.int .i64 xr):=((zAL w _ _ _).cell (p:=⟨g,o+4,none⟩) hg).trans x4
 go_enter Tryz.func24,Tryz.ntmps24
 go_wp2
 refine bodyPost_ret (by simp[results,Tryz.results24,go_sem];first|done|rfl) rfl ?_
 exact zAo rfl (by first|exact zAL _ _ _ _|trace_state)
theorem pSettle_otherx (w:World) (nk vk vp vq:Int) (vs:ByteArray) (vr fk fp fq:Int) (fs:ByteArray) (fr:Int) (av:Value) (na:Int) (ns:ByteArray) (g o n cap:Nat) (hg:g<w.heap.size) (hn:0<n) (xk xp xq:Int) (xs:ByteArray) (xr:Int) (x0:w.cell? ⟨g,o,none⟩=some (.int .i64 xk)) (x1:w.cell? ⟨g,o+1,none⟩=some (.int .i64 xp)) (x2:w.cell? ⟨g,o+2,none⟩=some (.int .i64 xq)) (x3:w.cell? ⟨g,o+3,none⟩=some (.string xs)) (x4:w.cell? ⟨g,o+4,none⟩=some (.int .i64 xr)) (h1:(nk==1)=false) (h2:(nk !=2)=false) (h3:(na==1)=false) (h4:(na==2)=false) (h5:(na==3)=false):Calls Tryz.prog 24 #[.agg #[nk,vk,vp,vq,vs,vr,fk,fp,fq,fs,fr,av,na,ns],.slice (some ⟨g,o,none⟩) n cap] w (ValPost w V.nil):=by
 have hn1:((n:Nat):Int)>0:=by omega
 have hn2:decide ((0:Int)<(n:Nat))=true:=by rw[decide_eq_true_eq];omega
 have y0:(((w.alloc (.cells #[nk,vk,vp,vq,vs,vr,fk,fp,fq,fs,fr,av,na,ns] 43)).alloc (.cells #[.int .i64 0,.int .i64 0,.int .i64 0,.string ⟨#[]⟩,.int .i64 0] 25)).alloc (.cells #[.int .i64 0,.int .i64 0,.int .i64 0,.string ⟨#[]⟩,.int .i64 0] 25)).cell? ⟨g,o,none⟩=some (.int .i64 xk):=((zAL w _ _ _).cell (p:=⟨g,o,none⟩) hg).trans x0
 have y1:(((w.alloc (.cells #[nk,vk,vp,vq,vs,vr,fk,fp,fq,fs,fr,av,na,ns] 43)).alloc (.cells #[.int .i64 0,.int .i64 0,.int .i64 0,.string ⟨#[]⟩,.int .i64 0] 25)).alloc (.cells #[.int .i64 0,.int .i64 0,.int .i64 0,.string ⟨#[]⟩,.int .i64 0] 25)).cell? ⟨g,o+1,none⟩=some (.int .i64 xp):=((zAL w _ _ _).cell (p:=⟨g,o+1,none⟩) hg).trans x1
 have y2:(((w.alloc (.cells #[nk,vk,vp,vq,vs,vr,fk,fp,fq,fs,fr,av,na,ns] 43)).alloc (.cells #[.int .i64 0,.int .i64 0,.int .i64 0,.string ⟨#[]⟩,.int .i64 0] 25)).alloc (.cells #[.int .i64 0,.int .i64 0,.int .i64 0,.string ⟨#[]⟩,.int .i64 0] 25)).cell? ⟨g,o+2,none⟩=some (.int .i64 xq):=((zAL w _ _ _).cell (p:=⟨g,o+2,none⟩) hg).trans x2
 have y3:(((w.alloc (.cells #[nk,vk,vp,vq,vs,vr,fk,fp,fq,fs,fr,av,na,ns] 43)).alloc (.cells #[.int .i64 0,.int .i64 0,.int .i64 0,.string ⟨#[]⟩,.int .i64 0] 25)).alloc (.cells #[.int .i64 0,.int .i64 0,.int .i64 0,.string ⟨#[]⟩,.int .i64 0] 25)).cell? ⟨g,o+3,none⟩=some (.string xs):=((zAL w _ _ _).cell (p:=⟨g,o+3,none⟩) hg).trans x3
 have y4:(((w.alloc (.cells #[nk,vk,vp,vq,vs,vr,fk,fp,fq,fs,fr,av,na,ns] 43)).alloc (.cells #[.int .i64 0,.int .i64 0,.int .i64 0,.string ⟨#[]⟩,.int .i64 0] 25)).alloc (.cells #[.int .i64 0,.int .i64 0,.int .i64 0,.string ⟨#[]⟩,.int .i64 0] 25)).cell? ⟨g,o+4,none⟩=some (.int .i64 xr):=((zAL w _ _ _).cell (p:=⟨g,o+4,none⟩) hg).trans x4
 go_enter Tryz.func24,Tryz.ntmps24
 go_wp2
 refine bodyPost_ret (by simp[results,Tryz.results24,go_sem];first|done|rfl) rfl ?_
 exact zAo rfl (by first|exact zAL _ _ _ _|trace_state)
theorem pSettle_truex (w:World) (nk vk vp vq:Int) (vs:ByteArray) (vr fk fp fq:Int) (fs:ByteArray) (fr:Int) (av:Value) (na:Int) (ns:ByteArray) (g o n cap:Nat) (hg:g<w.heap.size) (hn:0<n) (xk xp xq:Int) (xs:ByteArray) (xr:Int) (x0:w.cell? ⟨g,o,none⟩=some (.int .i64 xk)) (x1:w.cell? ⟨g,o+1,none⟩=some (.int .i64 xp)) (x2:w.cell? ⟨g,o+2,none⟩=some (.int .i64 xq)) (x3:w.cell? ⟨g,o+3,none⟩=some (.string xs)) (x4:w.cell? ⟨g,o+4,none⟩=some (.int .i64 xr)) (h1:(nk==1)=false) (h2:(nk !=2)=false) (h3:(na==1)=false) (h4:(na==2)=true):Calls Tryz.prog 24 #[.agg #[nk,vk,vp,vq,vs,vr,fk,fp,fq,fs,fr,av,na,ns],.slice (some ⟨g,o,none⟩) n cap] w (ValPost w (boolV (trueV ⟨xk,xp,xq,xs,xr⟩))):=by
 have hn1:((n:Nat):Int)>0:=by omega
 have hn2:decide ((0:Int)<(n:Nat))=true:=by rw[decide_eq_true_eq];omega
 have y0:(((w.alloc (.cells #[nk,vk,vp,vq,vs,vr,fk,fp,fq,fs,fr,av,na,ns] 43)).alloc (.cells #[.int .i64 0,.int .i64 0,.int .i64 0,.string ⟨#[]⟩,.int .i64 0] 25)).alloc (.cells #[.int .i64 0,.int .i64 0,.int .i64 0,.string ⟨#[]⟩,.int .i64 0] 25)).cell? ⟨g,o,none⟩=some (.int .i64 xk):=((zAL w _ _ _).cell (p:=⟨g,o,none⟩) hg).trans x0
 have y1:(((w.alloc (.cells #[nk,vk,vp,vq,vs,vr,fk,fp,fq,fs,fr,av,na,ns] 43)).alloc (.cells #[.int .i64 0,.int .i64 0,.int .i64 0,.string ⟨#[]⟩,.int .i64 0] 25)).alloc (.cells #[.int .i64 0,.int .i64 0,.int .i64 0,.string ⟨#[]⟩,.int .i64 0] 25)).cell? ⟨g,o+1,none⟩=some (.int .i64 xp):=((zAL w _ _ _).cell (p:=⟨g,o+1,none⟩) hg).trans x1
 have y2:(((w.alloc (.cells #[nk,vk,vp,vq,vs,vr,fk,fp,fq,fs,fr,av,na,ns] 43)).alloc (.cells #[.int .i64 0,.int .i64 0,.int .i64 0,.string ⟨#[]⟩,.int .i64 0] 25)).alloc (.cells #[.int .i64 0,.int .i64 0,.int .i64 0,.string ⟨#[]⟩,.int .i64 0] 25)).cell? ⟨g,o+2,none⟩=some (.int .i64 xq):=((zAL w _ _ _).cell (p:=⟨g,o+2,none⟩) hg).trans x2
 have y3:(((w.alloc (.cells #[nk,vk,vp,vq,vs,vr,fk,fp,fq,fs,fr,av,na,ns] 43)).alloc (.cells #[.int .i64 0,.int .i64 0,.int .i64 0,.string ⟨#[]⟩,.int .i64 0] 25)).alloc (.cells #[.int .i64 0,.int .i64 0,.int .i64 0,.string ⟨#[]⟩,.int .i64 0] 25)).cell? ⟨g,o+3,none⟩=some (.string xs):=((zAL w _ _ _).cell (p:=⟨g,o+3,none⟩) hg).trans x3
 have y4:(((w.alloc (.cells #[nk,vk,vp,vq,vs,vr,fk,fp,fq,fs,fr,av,na,ns] 43)).alloc (.cells #[.int .i64 0,.int .i64 0,.int .i64 0,.string ⟨#[]⟩,.int .i64 0] 25)).alloc (.cells #[.int .i64 0,.int .i64 0,.int .i64 0,.string ⟨#[]⟩,.int .i64 0] 25)).cell? ⟨g,o+4,none⟩=some (.int .i64 xr):=((zAL w _ _ _).cell (p:=⟨g,o+4,none⟩) hg).trans x4
 go_enter Tryz.func24,Tryz.ntmps24
 go_wp2_with fail
 refine(pTrue_c _ xk xp xq xs xr).mono ?_
 rintro e w1 ⟨rfl,hb⟩
 have Hu1:=hkh hb (zAY _ _ _ _)
 have HW1:=hbn (zAL _ _ _ _) hb
 have hz1:=hb.size
 try simp at hz1
 clear hb
 go_wp2_with fail
 refine(zBn _ _).mono ?_
 rintro e w2 ⟨rfl,hb⟩
 have Hu2:=hkh hb Hu1.out
 have HW2:=hbn HW1.out hb
 have hz2:=hb.size
 try simp at hz2
 clear hb
 have hyu:w.heap.size+1<w2.heap.size:=hsz Hu2
 obtain⟨u0,u1,u2,u3,u4⟩:=cells5 Hu2.out
 obtain⟨fu0,fu1,fu2,fu3,fu4⟩:=froz5 Hu2.out
 go_wp2
 refine bodyPost_ret (by simp[results,Tryz.results24,go_sem,hyu,u0,u1,u2,u3,u4];first|done|rfl) rfl ?_
 exact zAo rfl (zAH HW2.out (by omega) _ _ _ _ _)
theorem pSettle_falsex (w:World) (nk vk vp vq:Int) (vs:ByteArray) (vr fk fp fq:Int) (fs:ByteArray) (fr:Int) (av:Value) (na:Int) (ns:ByteArray) (g o n cap:Nat) (hg:g<w.heap.size) (hn:0<n) (xk xp xq:Int) (xs:ByteArray) (xr:Int) (x0:w.cell? ⟨g,o,none⟩=some (.int .i64 xk)) (x1:w.cell? ⟨g,o+1,none⟩=some (.int .i64 xp)) (x2:w.cell? ⟨g,o+2,none⟩=some (.int .i64 xq)) (x3:w.cell? ⟨g,o+3,none⟩=some (.string xs)) (x4:w.cell? ⟨g,o+4,none⟩=some (.int .i64 xr)) (h1:(nk==1)=false) (h2:(nk !=2)=false) (h3:(na==1)=false) (h4:(na==2)=false) (h5:(na==3)=true):Calls Tryz.prog 24 #[.agg #[nk,vk,vp,vq,vs,vr,fk,fp,fq,fs,fr,av,na,ns],.slice (some ⟨g,o,none⟩) n cap] w (ValPost w (boolV (!trueV ⟨xk,xp,xq,xs,xr⟩))):=by
 have hn1:((n:Nat):Int)>0:=by omega
 have hn2:decide ((0:Int)<(n:Nat))=true:=by rw[decide_eq_true_eq];omega
 have y0:(((w.alloc (.cells #[nk,vk,vp,vq,vs,vr,fk,fp,fq,fs,fr,av,na,ns] 43)).alloc (.cells #[.int .i64 0,.int .i64 0,.int .i64 0,.string ⟨#[]⟩,.int .i64 0] 25)).alloc (.cells #[.int .i64 0,.int .i64 0,.int .i64 0,.string ⟨#[]⟩,.int .i64 0] 25)).cell? ⟨g,o,none⟩=some (.int .i64 xk):=((zAL w _ _ _).cell (p:=⟨g,o,none⟩) hg).trans x0
 have y1:(((w.alloc (.cells #[nk,vk,vp,vq,vs,vr,fk,fp,fq,fs,fr,av,na,ns] 43)).alloc (.cells #[.int .i64 0,.int .i64 0,.int .i64 0,.string ⟨#[]⟩,.int .i64 0] 25)).alloc (.cells #[.int .i64 0,.int .i64 0,.int .i64 0,.string ⟨#[]⟩,.int .i64 0] 25)).cell? ⟨g,o+1,none⟩=some (.int .i64 xp):=((zAL w _ _ _).cell (p:=⟨g,o+1,none⟩) hg).trans x1
 have y2:(((w.alloc (.cells #[nk,vk,vp,vq,vs,vr,fk,fp,fq,fs,fr,av,na,ns] 43)).alloc (.cells #[.int .i64 0,.int .i64 0,.int .i64 0,.string ⟨#[]⟩,.int .i64 0] 25)).alloc (.cells #[.int .i64 0,.int .i64 0,.int .i64 0,.string ⟨#[]⟩,.int .i64 0] 25)).cell? ⟨g,o+2,none⟩=some (.int .i64 xq):=((zAL w _ _ _).cell (p:=⟨g,o+2,none⟩) hg).trans x2
 have y3:(((w.alloc (.cells #[nk,vk,vp,vq,vs,vr,fk,fp,fq,fs,fr,av,na,ns] 43)).alloc (.cells #[.int .i64 0,.int .i64 0,.int .i64 0,.string ⟨#[]⟩,.int .i64 0] 25)).alloc (.cells #[.int .i64 0,.int .i64 0,.int .i64 0,.string ⟨#[]⟩,.int .i64 0] 25)).cell? ⟨g,o+3,none⟩=some (.string xs):=((zAL w _ _ _).cell (p:=⟨g,o+3,none⟩) hg).trans x3
 have y4:(((w.alloc (.cells #[nk,vk,vp,vq,vs,vr,fk,fp,fq,fs,fr,av,na,ns] 43)).alloc (.cells #[.int .i64 0,.int .i64 0,.int .i64 0,.string ⟨#[]⟩,.int .i64 0] 25)).alloc (.cells #[.int .i64 0,.int .i64 0,.int .i64 0,.string ⟨#[]⟩,.int .i64 0] 25)).cell? ⟨g,o+4,none⟩=some (.int .i64 xr):=((zAL w _ _ _).cell (p:=⟨g,o+4,none⟩) hg).trans x4
 go_enter Tryz.func24,Tryz.ntmps24
 go_wp2_with fail
 refine(pTrue_c _ xk xp xq xs xr).mono ?_
 rintro e w1 ⟨rfl,hb⟩
 have Hu1:=hkh hb (zAY _ _ _ _)
 have HW1:=hbn (zAL _ _ _ _) hb
 have hz1:=hb.size
 try simp at hz1
 clear hb
 go_wp2_with fail
 refine(zBn _ _).mono ?_
 rintro e w2 ⟨rfl,hb⟩
 have Hu2:=hkh hb Hu1.out
 have HW2:=hbn HW1.out hb
 have hz2:=hb.size
 try simp at hz2
 clear hb
 have hyu:w.heap.size+1<w2.heap.size:=hsz Hu2
 obtain⟨u0,u1,u2,u3,u4⟩:=cells5 Hu2.out
 obtain⟨fu0,fu1,fu2,fu3,fu4⟩:=froz5 Hu2.out
 go_wp2
 refine bodyPost_ret (by simp[results,Tryz.results24,go_sem,hyu,u0,u1,u2,u3,u4];first|done|rfl) rfl ?_
 exact zAo rfl (zAH HW2.out (by omega) _ _ _ _ _)
theorem pSettle_c (w:World) (nk vk vp vq:Int) (vs:ByteArray) (vr fk fp fq:Int) (fs:ByteArray) (fr:Int) (av:Value) (na:Int) (ns:ByteArray) (so:Option Addr) (n cap:Nat) (x:V) (h0:n=0→x=V.nil)
  (hx:0<n→∃g o,so=some ⟨g,o,none⟩∧g<w.heap.size∧w.cell? ⟨g,o,none⟩=some (.int .i64 x.k)∧w.cell? ⟨g,o+1,none⟩=some (.int .i64 x.p)∧w.cell? ⟨g,o+2,none⟩=some (.int .i64 x.q)∧w.cell? ⟨g,o+3,none⟩=some (.string x.s)∧w.cell? ⟨g,o+4,none⟩=some (.int .i64 x.r)):
  Calls Tryz.prog 24 #[.agg #[nk,vk,vp,vq,vs,vr,fk,fp,fq,fs,fr,av,na,ns],.slice so n cap] w (ValPost w (settleR nk na ⟨vk,vp,vq,vs,vr⟩ x)):=by
 unfold settleR
 by_cases h1:nk=1
 ·rw[if_pos h1]
  exact pSettle_val w nk vk vp vq vs vr fk fp fq fs fr av na ns so n cap (beq_iff_eq.2 h1)
 ·rw[if_neg h1]
  have h1':=beq_eq_false_iff_ne.2 h1
  rcases Nat.eq_zero_or_pos n with hn|hn
  ·subst hn
   obtain rfl:=h0 rfl
   by_cases h2:nk=2
   ·have h2':(nk !=2)=false:=by rw[bne_eq_false_iff_eq];exact h2
    rw[if_neg (fun h=>h h2)]
    by_cases h3:na=1
    ·rw[if_pos h3];exact pSettle_one0 w nk vk vp vq vs vr fk fp fq fs fr av na ns so cap h1' h2' (beq_iff_eq.2 h3)
    ·rw[if_neg h3]
     have h3':=beq_eq_false_iff_ne.2 h3
     by_cases h4:na=2
     ·rw[if_pos h4];exact pSettle_true0 w nk vk vp vq vs vr fk fp fq fs fr av na ns so cap h1' h2' h3' (beq_iff_eq.2 h4)
     ·rw[if_neg h4]
      have h4':=beq_eq_false_iff_ne.2 h4
      by_cases h5:na=3
      ·rw[if_pos h5];exact pSettle_false0 w nk vk vp vq vs vr fk fp fq fs fr av na ns so cap h1' h2' h3' h4' (beq_iff_eq.2 h5)
      ·rw[if_neg h5];exact pSettle_other0 w nk vk vp vq vs vr fk fp fq fs fr av na ns so cap h1' h2' h3' h4' (beq_eq_false_iff_ne.2 h5)
   ·rw[if_pos h2]
    exact pSettle_no0 w nk vk vp vq vs vr fk fp fq fs fr av na ns so cap h1' (by rw[bne_iff_ne];exact h2)
  ·obtain⟨g,o,rfl,hg,x0,x1,x2,x3,x4⟩:=hx hn
   obtain⟨xk,xp,xq,xs,xr⟩:=x
   by_cases h2:nk=2
   ·have h2':(nk !=2)=false:=by rw[bne_eq_false_iff_eq];exact h2
    rw[if_neg (fun h=>h h2)]
    by_cases h3:na=1
    ·rw[if_pos h3];exact pSettle_onex w nk vk vp vq vs vr fk fp fq fs fr av na ns g o n cap hg hn xk xp xq xs xr x0 x1 x2 x3 x4 h1' h2' (beq_iff_eq.2 h3)
    ·rw[if_neg h3]
     have h3':=beq_eq_false_iff_ne.2 h3
     by_cases h4:na=2
     ·rw[if_pos h4];exact pSettle_truex w nk vk vp vq vs vr fk fp fq fs fr av na ns g o n cap hg hn xk xp xq xs xr x0 x1 x2 x3 x4 h1' h2' h3' (beq_iff_eq.2 h4)
     ·rw[if_neg h4]
      have h4':=beq_eq_false_iff_ne.2 h4
      by_cases h5:na=3
      ·rw[if_pos h5];exact pSettle_falsex w nk vk vp vq vs vr fk fp fq fs fr av na ns g o n cap hg hn xk xp xq xs xr x0 x1 x2 x3 x4 h1' h2' h3' h4' (beq_iff_eq.2 h5)
      ·rw[if_neg h5];exact pSettle_otherx w nk vk vp vq vs vr fk fp fq fs fr av na ns g o n cap hg hn xk xp xq xs xr x0 x1 x2 x3 x4 h1' h2' h3' h4' (beq_eq_false_iff_ne.2 h5)
   ·rw[if_pos h2]
    exact pSettle_nox w nk vk vp vq vs vr fk fp fq fs fr av na ns g o n cap hg hn xk xp xq xs xr x0 x1 x2 x3 x4 h1' (by rw[bne_iff_ne];exact h2)
end Go.Proofs.YthkpckgcgkijbaaGreatDoor
