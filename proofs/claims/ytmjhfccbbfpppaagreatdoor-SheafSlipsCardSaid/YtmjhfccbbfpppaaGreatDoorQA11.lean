import Derived.Test.YtmjhfccbbfpppaaGreatDoorProg
import Derived.KernelRfl
import Derived.Test.YtmjhfccbbfpppaaGreatDoorQA08
namespace Go.Proofs.YtmjhfccbbfpppaaGreatDoor
open Go Pm
@[go_sem] theorem tb_tk_0:tk Tryz.prog 0=TK.other:=by kernel_rfl
@[go_sem] theorem tb_loadK_0:a0m Tryz.prog 0=some (false,1):=by kernel_rfl
@[go_sem] theorem tb_zeroK_0:a0p Tryz.prog 0=some [Value.tuple { toList:=[] }]:=by kernel_rfl
@[go_sem] theorem tb_bytesK_0:a0f Tryz.prog 0=some 0:=by kernel_rfl
@[go_sem] theorem tb_byteEl_0:a0g Tryz.prog 0=false:=by kernel_rfl
@[go_sem] theorem tb_tk_1:tk Tryz.prog 1=TK.other:=by kernel_rfl
@[go_sem] theorem tb_loadK_1:a0m Tryz.prog 1=some (false,1):=by kernel_rfl
@[go_sem] theorem tb_zeroK_1:a0p Tryz.prog 1=some [Value.nilFunc]:=by kernel_rfl
@[go_sem] theorem tb_bytesK_1:a0f Tryz.prog 1=some 8:=by kernel_rfl
@[go_sem] theorem tb_byteEl_1:a0g Tryz.prog 1=false:=by kernel_rfl
@[go_sem] theorem tb_tk_2:tk Tryz.prog 2=TK.int IntKind.i64:=by kernel_rfl
@[go_sem] theorem tb_loadK_2:a0m Tryz.prog 2=some (false,1):=by kernel_rfl
@[go_sem] theorem tb_zeroK_2:a0p Tryz.prog 2=some [Value.int IntKind.i64 0]:=by kernel_rfl
@[go_sem] theorem tb_bytesK_2:a0f Tryz.prog 2=some 8:=by kernel_rfl
@[go_sem] theorem tb_byteEl_2:a0g Tryz.prog 2=false:=by kernel_rfl
@[go_sem] theorem tb_tk_3:tk Tryz.prog 3=TK.int IntKind.i64:=by kernel_rfl
@[go_sem] theorem tb_loadK_3:a0m Tryz.prog 3=some (false,1):=by kernel_rfl
@[go_sem] theorem tb_zeroK_3:a0p Tryz.prog 3=some [Value.int IntKind.i64 0]:=by kernel_rfl
@[go_sem] theorem tb_bytesK_3:a0f Tryz.prog 3=some 8:=by kernel_rfl
@[go_sem] theorem tb_byteEl_3:a0g Tryz.prog 3=false:=by kernel_rfl
@[go_sem] theorem tb_tk_4:tk Tryz.prog 4=TK.bool:=by kernel_rfl
@[go_sem] theorem tb_loadK_4:a0m Tryz.prog 4=some (false,1):=by kernel_rfl
@[go_sem] theorem tb_zeroK_4:a0p Tryz.prog 4=some [Value.bool false]:=by kernel_rfl
@[go_sem] theorem tb_bytesK_4:a0f Tryz.prog 4=some 1:=by kernel_rfl
@[go_sem] theorem tb_byteEl_4:a0g Tryz.prog 4=false:=by kernel_rfl
@[go_sem] theorem tb_tk_5:tk Tryz.prog 5=TK.int IntKind.u8:=by kernel_rfl
@[go_sem] theorem tb_loadK_5:a0m Tryz.prog 5=some (false,1):=by kernel_rfl
@[go_sem] theorem tb_zeroK_5:a0p Tryz.prog 5=some [Value.int IntKind.u8 0]:=by kernel_rfl
@[go_sem] theorem tb_bytesK_5:a0f Tryz.prog 5=some 1:=by kernel_rfl
@[go_sem] theorem tb_byteEl_5:a0g Tryz.prog 5=false:=by kernel_rfl
@[go_sem] theorem tb_tk_6:tk Tryz.prog 6=TK.int IntKind.u8:=by kernel_rfl
@[go_sem] theorem tb_loadK_6:a0m Tryz.prog 6=some (false,1):=by kernel_rfl
@[go_sem] theorem tb_zeroK_6:a0p Tryz.prog 6=some [Value.int IntKind.u8 0]:=by kernel_rfl
@[go_sem] theorem tb_bytesK_6:a0f Tryz.prog 6=some 1:=by kernel_rfl
@[go_sem] theorem tb_byteEl_6:a0g Tryz.prog 6=false:=by kernel_rfl
@[go_sem] theorem tb_tk_7:tk Tryz.prog 7=TK.other:=by kernel_rfl
@[go_sem] theorem tb_loadK_7:a0m Tryz.prog 7=some (true,4):=by kernel_rfl
@[go_sem] theorem tb_zeroK_7:a0p Tryz.prog 7=some [Value.int IntKind.i64 0,Value.int IntKind.i64 0,Value.bool false,Value.int IntKind.u8 0]:=by kernel_rfl
@[go_sem] theorem tb_bytesK_7:a0f Tryz.prog 7=some 24:=by kernel_rfl
@[go_sem] theorem tb_placesK_7:a0y Tryz.prog 7=some [(0,1),(1,1),(2,1),(3,1)]:=by kernel_rfl
@[go_sem] theorem tb_byteEl_7:a0g Tryz.prog 7=false:=by kernel_rfl
@[go_sem] theorem tb_flatK_7:a5w Tryz.prog 7=some [TypeDesc.int IntKind.i64,TypeDesc.int IntKind.i64,TypeDesc.bool,TypeDesc.int IntKind.u8]:=by kernel_rfl
@[go_sem] theorem tb_fieldK_7_0:a0t Tryz.prog 7 0=some (0,false,1):=by kernel_rfl
@[go_sem] theorem tb_fieldK_7_1:a0t Tryz.prog 7 1=some (1,false,1):=by kernel_rfl
@[go_sem] theorem tb_fieldK_7_2:a0t Tryz.prog 7 2=some (2,false,1):=by kernel_rfl
@[go_sem] theorem tb_fieldK_7_3:a0t Tryz.prog 7 3=some (3,false,1):=by kernel_rfl
@[go_sem] theorem tb_tk_8:tk Tryz.prog 8=TK.other:=by kernel_rfl
@[go_sem] theorem tb_loadK_8:a0m Tryz.prog 8=some (true,4):=by kernel_rfl
@[go_sem] theorem tb_zeroK_8:a0p Tryz.prog 8=some [Value.int IntKind.i64 0,Value.int IntKind.i64 0,Value.bool false,Value.int IntKind.u8 0]:=by kernel_rfl
@[go_sem] theorem tb_bytesK_8:a0f Tryz.prog 8=some 24:=by kernel_rfl
@[go_sem] theorem tb_placesK_8:a0y Tryz.prog 8=some [(0,1),(1,1),(2,1),(3,1)]:=by kernel_rfl
@[go_sem] theorem tb_byteEl_8:a0g Tryz.prog 8=false:=by kernel_rfl
@[go_sem] theorem tb_flatK_8:a5w Tryz.prog 8=some [TypeDesc.int IntKind.i64,TypeDesc.int IntKind.i64,TypeDesc.bool,TypeDesc.int IntKind.u8]:=by kernel_rfl
@[go_sem] theorem tb_fieldK_8_0:a0t Tryz.prog 8 0=some (0,false,1):=by kernel_rfl
@[go_sem] theorem tb_fieldK_8_1:a0t Tryz.prog 8 1=some (1,false,1):=by kernel_rfl
@[go_sem] theorem tb_fieldK_8_2:a0t Tryz.prog 8 2=some (2,false,1):=by kernel_rfl
@[go_sem] theorem tb_fieldK_8_3:a0t Tryz.prog 8 3=some (3,false,1):=by kernel_rfl
@[go_sem] theorem d6z:tk Tryz.prog 9=TK.str:=by kernel_rfl
@[go_sem] theorem tb_loadK_9:a0m Tryz.prog 9=some (false,1):=by kernel_rfl
@[go_sem] theorem d3s:a0p Tryz.prog 9=some [Value.string ByteArray.empty]:=by kernel_rfl
@[go_sem] theorem tb_bytesK_9:a0f Tryz.prog 9=some 16:=by kernel_rfl
@[go_sem] theorem tb_byteEl_9:a0g Tryz.prog 9=false:=by kernel_rfl
@[go_sem] theorem tb_arrLoad_9:a3c Tryz.prog 9=none:=by kernel_rfl
@[go_sem] theorem tb_tk_10:tk Tryz.prog 10=TK.str:=by kernel_rfl
@[go_sem] theorem tb_loadK_10:a0m Tryz.prog 10=some (false,1):=by kernel_rfl
@[go_sem] theorem tb_zeroK_10:a0p Tryz.prog 10=some [Value.string ByteArray.empty]:=by kernel_rfl
@[go_sem] theorem tb_bytesK_10:a0f Tryz.prog 10=some 16:=by kernel_rfl
@[go_sem] theorem tb_byteEl_10:a0g Tryz.prog 10=false:=by kernel_rfl
@[go_sem] theorem tb_arrLoad_10:a3c Tryz.prog 10=none:=by kernel_rfl
@[go_sem] theorem tb_tk_11:tk Tryz.prog 11=TK.str:=by kernel_rfl
@[go_sem] theorem tb_loadK_11:a0m Tryz.prog 11=some (false,1):=by kernel_rfl
@[go_sem] theorem tb_zeroK_11:a0p Tryz.prog 11=some [Value.string ByteArray.empty]:=by kernel_rfl
@[go_sem] theorem tb_bytesK_11:a0f Tryz.prog 11=some 16:=by kernel_rfl
@[go_sem] theorem tb_byteEl_11:a0g Tryz.prog 11=false:=by kernel_rfl
@[go_sem] theorem tb_arrLoad_11:a3c Tryz.prog 11=none:=by kernel_rfl
@[go_sem] theorem tb_tk_12:tk Tryz.prog 12=TK.int IntKind.u64:=by kernel_rfl
@[go_sem] theorem tb_loadK_12:a0m Tryz.prog 12=some (false,1):=by kernel_rfl
@[go_sem] theorem tb_zeroK_12:a0p Tryz.prog 12=some [Value.int IntKind.u64 0]:=by kernel_rfl
@[go_sem] theorem tb_bytesK_12:a0f Tryz.prog 12=some 8:=by kernel_rfl
@[go_sem] theorem tb_byteEl_12:a0g Tryz.prog 12=false:=by kernel_rfl
@[go_sem] theorem tb_tk_13:tk Tryz.prog 13=TK.other:=by kernel_rfl
@[go_sem] theorem tb_loadK_13:a0m Tryz.prog 13=some (true,2):=by kernel_rfl
@[go_sem] theorem tb_zeroK_13:a0p Tryz.prog 13=some [Value.string ByteArray.empty,Value.int IntKind.u64 0]:=by kernel_rfl
@[go_sem] theorem tb_bytesK_13:a0f Tryz.prog 13=some 24:=by kernel_rfl
@[go_sem] theorem tb_placesK_13:a0y Tryz.prog 13=some [(0,1),(1,1)]:=by kernel_rfl
@[go_sem] theorem tb_byteEl_13:a0g Tryz.prog 13=false:=by kernel_rfl
@[go_sem] theorem tb_fieldK_13_0:a0t Tryz.prog 13 0=some (0,false,1):=by kernel_rfl
@[go_sem] theorem tb_fieldK_13_1:a0t Tryz.prog 13 1=some (1,false,1):=by kernel_rfl
@[go_sem] theorem tb_tk_14:tk Tryz.prog 14=TK.other:=by kernel_rfl
@[go_sem] theorem tb_loadK_14:a0m Tryz.prog 14=some (true,2):=by kernel_rfl
@[go_sem] theorem tb_zeroK_14:a0p Tryz.prog 14=some [Value.string ByteArray.empty,Value.int IntKind.u64 0]:=by kernel_rfl
@[go_sem] theorem tb_bytesK_14:a0f Tryz.prog 14=some 24:=by kernel_rfl
@[go_sem] theorem tb_placesK_14:a0y Tryz.prog 14=some [(0,1),(1,1)]:=by kernel_rfl
@[go_sem] theorem tb_byteEl_14:a0g Tryz.prog 14=false:=by kernel_rfl
@[go_sem] theorem tb_fieldK_14_0:a0t Tryz.prog 14 0=some (0,false,1):=by kernel_rfl
@[go_sem] theorem tb_fieldK_14_1:a0t Tryz.prog 14 1=some (1,false,1):=by kernel_rfl
@[go_sem] theorem tb_tk_15:tk Tryz.prog 15=TK.ptr:=by kernel_rfl
@[go_sem] theorem tb_loadK_15:a0m Tryz.prog 15=some (false,1):=by kernel_rfl
@[go_sem] theorem tb_zeroK_15:a0p Tryz.prog 15=some [Value.pointer none]:=by kernel_rfl
@[go_sem] theorem tb_bytesK_15:a0f Tryz.prog 15=some 8:=by kernel_rfl
@[go_sem] theorem tb_byteEl_15:a0g Tryz.prog 15=false:=by kernel_rfl
@[go_sem] theorem tb_tk_16:tk Tryz.prog 16=TK.ptr:=by kernel_rfl
@[go_sem] theorem tb_loadK_16:a0m Tryz.prog 16=some (false,1):=by kernel_rfl
@[go_sem] theorem tb_zeroK_16:a0p Tryz.prog 16=some [Value.pointer none]:=by kernel_rfl
@[go_sem] theorem tb_bytesK_16:a0f Tryz.prog 16=some 8:=by kernel_rfl
@[go_sem] theorem tb_byteEl_16:a0g Tryz.prog 16=false:=by kernel_rfl
@[go_sem] theorem tb_tk_17:tk Tryz.prog 17=TK.ptr:=by kernel_rfl
@[go_sem] theorem tb_loadK_17:a0m Tryz.prog 17=some (false,1):=by kernel_rfl
@[go_sem] theorem tb_zeroK_17:a0p Tryz.prog 17=some [Value.pointer none]:=by kernel_rfl
@[go_sem] theorem tb_bytesK_17:a0f Tryz.prog 17=some 8:=by kernel_rfl
@[go_sem] theorem tb_byteEl_17:a0g Tryz.prog 17=false:=by kernel_rfl
@[go_sem] theorem tb_tk_18:tk Tryz.prog 18=TK.other:=by kernel_rfl
@[go_sem] theorem tb_loadK_18:a0m Tryz.prog 18=some (true,1):=by kernel_rfl
@[go_sem] theorem tb_zeroK_18:a0p Tryz.prog 18=some [Value.pointer none]:=by kernel_rfl
@[go_sem] theorem tb_bytesK_18:a0f Tryz.prog 18=some 8:=by kernel_rfl
@[go_sem] theorem tb_placesK_18:a0y Tryz.prog 18=some [(0,1)]:=by kernel_rfl
@[go_sem] theorem tb_byteEl_18:a0g Tryz.prog 18=false:=by kernel_rfl
@[go_sem] theorem tb_fieldK_18_0:a0t Tryz.prog 18 0=some (0,false,1):=by kernel_rfl
@[go_sem] theorem tb_tk_19:tk Tryz.prog 19=TK.other:=by kernel_rfl
@[go_sem] theorem tb_loadK_19:a0m Tryz.prog 19=some (true,1):=by kernel_rfl
@[go_sem] theorem tb_zeroK_19:a0p Tryz.prog 19=some [Value.pointer none]:=by kernel_rfl
@[go_sem] theorem tb_bytesK_19:a0f Tryz.prog 19=some 8:=by kernel_rfl
@[go_sem] theorem tb_placesK_19:a0y Tryz.prog 19=some [(0,1)]:=by kernel_rfl
@[go_sem] theorem tb_byteEl_19:a0g Tryz.prog 19=false:=by kernel_rfl
@[go_sem] theorem tb_fieldK_19_0:a0t Tryz.prog 19 0=some (0,false,1):=by kernel_rfl
@[go_sem] theorem tb_tk_20:tk Tryz.prog 20=TK.other:=by kernel_rfl
@[go_sem] theorem tb_loadK_20:a0m Tryz.prog 20=some (false,1):=by kernel_rfl
@[go_sem] theorem tb_zeroK_20:a0p Tryz.prog 20=some [Value.nilIface]:=by kernel_rfl
@[go_sem] theorem tb_bytesK_20:a0f Tryz.prog 20=some 16:=by kernel_rfl
@[go_sem] theorem tb_byteEl_20:a0g Tryz.prog 20=false:=by kernel_rfl
@[go_sem] theorem tb_tk_21:tk Tryz.prog 21=TK.int IntKind.i32:=by kernel_rfl
@[go_sem] theorem tb_loadK_21:a0m Tryz.prog 21=some (false,1):=by kernel_rfl
@[go_sem] theorem tb_zeroK_21:a0p Tryz.prog 21=some [Value.int IntKind.i32 0]:=by kernel_rfl
@[go_sem] theorem tb_bytesK_21:a0f Tryz.prog 21=some 4:=by kernel_rfl
@[go_sem] theorem tb_byteEl_21:a0g Tryz.prog 21=false:=by kernel_rfl
@[go_sem] theorem tb_tk_22:tk Tryz.prog 22=TK.slc:=by kernel_rfl
@[go_sem] theorem tb_loadK_22:a0m Tryz.prog 22=some (false,1):=by kernel_rfl
@[go_sem] theorem tb_zeroK_22:a0p Tryz.prog 22=some [Value.slice none 0 0]:=by kernel_rfl
@[go_sem] theorem tb_bytesK_22:a0f Tryz.prog 22=some 24:=by kernel_rfl
@[go_sem] theorem tb_sliceElem_22:a0u Tryz.prog 22=some (115,2):=by kernel_rfl
@[go_sem] theorem tb_arrElem_22:a2a Tryz.prog 22=none:=by kernel_rfl
@[go_sem] theorem tb_byteEl_22:a0g Tryz.prog 22=false:=by kernel_rfl
@[go_sem] theorem tb_tk_23:tk Tryz.prog 23=TK.other:=by kernel_rfl
@[go_sem] theorem tb_loadK_23:a0m Tryz.prog 23=some (true,1):=by kernel_rfl
@[go_sem] theorem tb_zeroK_23:a0p Tryz.prog 23=some [Value.slice none 0 0]:=by kernel_rfl
@[go_sem] theorem tb_bytesK_23:a0f Tryz.prog 23=some 24:=by kernel_rfl
@[go_sem] theorem tb_placesK_23:a0y Tryz.prog 23=some [(0,1)]:=by kernel_rfl
@[go_sem] theorem tb_byteEl_23:a0g Tryz.prog 23=false:=by kernel_rfl
@[go_sem] theorem tb_fieldK_23_0:a0t Tryz.prog 23 0=some (0,false,1):=by kernel_rfl
@[go_sem] theorem tb_tk_24:tk Tryz.prog 24=TK.other:=by kernel_rfl
@[go_sem] theorem tb_loadK_24:a0m Tryz.prog 24=some (true,1):=by kernel_rfl
@[go_sem] theorem tb_zeroK_24:a0p Tryz.prog 24=some [Value.slice none 0 0]:=by kernel_rfl
@[go_sem] theorem tb_bytesK_24:a0f Tryz.prog 24=some 24:=by kernel_rfl
@[go_sem] theorem tb_placesK_24:a0y Tryz.prog 24=some [(0,1)]:=by kernel_rfl
@[go_sem] theorem tb_byteEl_24:a0g Tryz.prog 24=false:=by kernel_rfl
@[go_sem] theorem tb_fieldK_24_0:a0t Tryz.prog 24 0=some (0,false,1):=by kernel_rfl
@[go_sem] theorem tb_tk_25:tk Tryz.prog 25=TK.slc:=by kernel_rfl
@[go_sem] theorem tb_loadK_25:a0m Tryz.prog 25=some (false,1):=by kernel_rfl
@[go_sem] theorem tb_zeroK_25:a0p Tryz.prog 25=some [Value.slice none 0 0]:=by kernel_rfl
@[go_sem] theorem tb_bytesK_25:a0f Tryz.prog 25=some 24:=by kernel_rfl
@[go_sem] theorem tb_sliceElem_25:a0u Tryz.prog 25=some (148,5):=by kernel_rfl
@[go_sem] theorem tb_arrElem_25:a2a Tryz.prog 25=none:=by kernel_rfl
@[go_sem] theorem tb_byteEl_25:a0g Tryz.prog 25=false:=by kernel_rfl
@[go_sem] theorem tb_tk_26:tk Tryz.prog 26=TK.other:=by kernel_rfl
@[go_sem] theorem tb_loadK_26:a0m Tryz.prog 26=some (true,2):=by kernel_rfl
@[go_sem] theorem tb_zeroK_26:a0p Tryz.prog 26=some [Value.int IntKind.i64 0,Value.slice none 0 0]:=by kernel_rfl
@[go_sem] theorem tb_bytesK_26:a0f Tryz.prog 26=some 32:=by kernel_rfl
@[go_sem] theorem tb_placesK_26:a0y Tryz.prog 26=some [(0,1),(1,1)]:=by kernel_rfl
@[go_sem] theorem tb_byteEl_26:a0g Tryz.prog 26=false:=by kernel_rfl
@[go_sem] theorem tb_fieldK_26_0:a0t Tryz.prog 26 0=some (0,false,1):=by kernel_rfl
@[go_sem] theorem tb_fieldK_26_1:a0t Tryz.prog 26 1=some (1,false,1):=by kernel_rfl
@[go_sem] theorem tb_tk_27:tk Tryz.prog 27=TK.other:=by kernel_rfl
@[go_sem] theorem tb_loadK_27:a0m Tryz.prog 27=some (true,2):=by kernel_rfl
@[go_sem] theorem tb_zeroK_27:a0p Tryz.prog 27=some [Value.int IntKind.i64 0,Value.slice none 0 0]:=by kernel_rfl
@[go_sem] theorem tb_bytesK_27:a0f Tryz.prog 27=some 32:=by kernel_rfl
@[go_sem] theorem tb_placesK_27:a0y Tryz.prog 27=some [(0,1),(1,1)]:=by kernel_rfl
@[go_sem] theorem tb_byteEl_27:a0g Tryz.prog 27=false:=by kernel_rfl
@[go_sem] theorem tb_fieldK_27_0:a0t Tryz.prog 27 0=some (0,false,1):=by kernel_rfl
@[go_sem] theorem tb_fieldK_27_1:a0t Tryz.prog 27 1=some (1,false,1):=by kernel_rfl
@[go_sem] theorem tb_tk_29:tk Tryz.prog 29=TK.other:=by kernel_rfl
@[go_sem] theorem tb_loadK_29:a0m Tryz.prog 29=some (false,1):=by kernel_rfl
@[go_sem] theorem tb_zeroK_29:a0p Tryz.prog 29=some [Value.nilFunc]:=by kernel_rfl
@[go_sem] theorem tb_bytesK_29:a0f Tryz.prog 29=some 8:=by kernel_rfl
@[go_sem] theorem tb_byteEl_29:a0g Tryz.prog 29=false:=by kernel_rfl
@[go_sem] theorem tb_tk_30:tk Tryz.prog 30=TK.int IntKind.i64:=by kernel_rfl
@[go_sem] theorem tb_loadK_30:a0m Tryz.prog 30=some (false,1):=by kernel_rfl
@[go_sem] theorem tb_zeroK_30:a0p Tryz.prog 30=some [Value.int IntKind.i64 0]:=by kernel_rfl
@[go_sem] theorem tb_bytesK_30:a0f Tryz.prog 30=some 8:=by kernel_rfl
@[go_sem] theorem tb_byteEl_30:a0g Tryz.prog 30=false:=by kernel_rfl
@[go_sem] theorem tb_tk_32:tk Tryz.prog 32=TK.slc:=by kernel_rfl
@[go_sem] theorem tb_loadK_32:a0m Tryz.prog 32=some (false,1):=by kernel_rfl
@[go_sem] theorem tb_zeroK_32:a0p Tryz.prog 32=some [Value.slice none 0 0]:=by kernel_rfl
@[go_sem] theorem tb_bytesK_32:a0f Tryz.prog 32=some 24:=by kernel_rfl
@[go_sem] theorem b5p:a0u Tryz.prog 32=some (9,1):=by kernel_rfl
@[go_sem] theorem tb_arrElem_32:a2a Tryz.prog 32=none:=by kernel_rfl
@[go_sem] theorem tb_byteEl_32:a0g Tryz.prog 32=false:=by kernel_rfl
@[go_sem] theorem tb_tk_33:tk Tryz.prog 33=TK.other:=by kernel_rfl
@[go_sem] theorem tb_loadK_33:a0m Tryz.prog 33=some (false,1):=by kernel_rfl
@[go_sem] theorem tb_zeroK_33:a0p Tryz.prog 33=some [Value.tuple { toList:=[Value.slice none 0 0,Value.int IntKind.i64 0] }]:=by kernel_rfl
@[go_sem] theorem tb_bytesK_33:a0f Tryz.prog 33=some 0:=by kernel_rfl
@[go_sem] theorem tb_byteEl_33:a0g Tryz.prog 33=false:=by kernel_rfl
@[go_sem] theorem tb_tk_35:tk Tryz.prog 35=TK.other:=by kernel_rfl
@[go_sem] theorem tb_loadK_35:a0m Tryz.prog 35=some (false,1):=by kernel_rfl
@[go_sem] theorem tb_zeroK_35:a0p Tryz.prog 35=some [Value.tuple { toList:=[Value.string ByteArray.empty,Value.int IntKind.i64 0] }]:=by kernel_rfl
@[go_sem] theorem tb_bytesK_35:a0f Tryz.prog 35=some 0:=by kernel_rfl
@[go_sem] theorem tb_byteEl_35:a0g Tryz.prog 35=false:=by kernel_rfl
@[go_sem] theorem tb_tk_37:tk Tryz.prog 37=TK.other:=by kernel_rfl
@[go_sem] theorem tb_loadK_37:a0m Tryz.prog 37=some (false,1):=by kernel_rfl
@[go_sem] theorem tb_zeroK_37:a0p Tryz.prog 37=some [Value.tuple { toList:=[Value.slice none 0 0,Value.int IntKind.i64 0,Value.int IntKind.i64 0] }]:=by kernel_rfl
@[go_sem] theorem tb_bytesK_37:a0f Tryz.prog 37=some 0:=by kernel_rfl
@[go_sem] theorem tb_byteEl_37:a0g Tryz.prog 37=false:=by kernel_rfl
@[go_sem] theorem tb_tk_39:tk Tryz.prog 39=TK.other:=by kernel_rfl
@[go_sem] theorem tb_loadK_39:a0m Tryz.prog 39=some (false,1):=by kernel_rfl
@[go_sem] theorem tb_zeroK_39:a0p Tryz.prog 39=some [Value.tuple { toList:=[Value.agg { toList:=[Value.slice none 0 0] },Value.int IntKind.i64 0] }]:=by kernel_rfl
@[go_sem] theorem tb_bytesK_39:a0f Tryz.prog 39=some 0:=by kernel_rfl
@[go_sem] theorem tb_byteEl_39:a0g Tryz.prog 39=false:=by kernel_rfl
@[go_sem] theorem tb_tk_41:tk Tryz.prog 41=TK.other:=by kernel_rfl
@[go_sem] theorem tb_loadK_41:a0m Tryz.prog 41=some (false,1):=by kernel_rfl
@[go_sem] theorem tb_zeroK_41:a0p Tryz.prog 41=some [Value.nilFunc]:=by kernel_rfl
@[go_sem] theorem tb_bytesK_41:a0f Tryz.prog 41=some 8:=by kernel_rfl
@[go_sem] theorem tb_byteEl_41:a0g Tryz.prog 41=false:=by kernel_rfl
@[go_sem] theorem tb_tk_43:tk Tryz.prog 43=TK.other:=by kernel_rfl
@[go_sem] theorem tb_loadK_43:a0m Tryz.prog 43=some (false,1):=by kernel_rfl
@[go_sem] theorem tb_zeroK_43:a0p Tryz.prog 43=some [Value.nilFunc]:=by kernel_rfl
@[go_sem] theorem tb_bytesK_43:a0f Tryz.prog 43=some 8:=by kernel_rfl
@[go_sem] theorem tb_byteEl_43:a0g Tryz.prog 43=false:=by kernel_rfl
@[go_sem] theorem tb_tk_44:tk Tryz.prog 44=TK.other:=by kernel_rfl
@[go_sem] theorem tb_loadK_44:a0m Tryz.prog 44=some (false,1):=by kernel_rfl
@[go_sem] theorem tb_zeroK_44:a0p Tryz.prog 44=some [Value.nilFunc]:=by kernel_rfl
@[go_sem] theorem tb_bytesK_44:a0f Tryz.prog 44=some 8:=by kernel_rfl
@[go_sem] theorem tb_byteEl_44:a0g Tryz.prog 44=false:=by kernel_rfl
@[go_sem] theorem tb_tk_48:tk Tryz.prog 48=TK.int IntKind.u16:=by kernel_rfl
@[go_sem] theorem tb_loadK_48:a0m Tryz.prog 48=some (false,1):=by kernel_rfl
@[go_sem] theorem tb_zeroK_48:a0p Tryz.prog 48=some [Value.int IntKind.u16 0]:=by kernel_rfl
@[go_sem] theorem tb_bytesK_48:a0f Tryz.prog 48=some 2:=by kernel_rfl
@[go_sem] theorem tb_byteEl_48:a0g Tryz.prog 48=false:=by kernel_rfl
@[go_sem] theorem tb_tk_52:tk Tryz.prog 52=TK.other:=by kernel_rfl
@[go_sem] theorem tb_loadK_52:a0m Tryz.prog 52=some (false,1):=by kernel_rfl
@[go_sem] theorem tb_zeroK_52:a0p Tryz.prog 52=some [Value.nilFunc]:=by kernel_rfl
@[go_sem] theorem tb_bytesK_52:a0f Tryz.prog 52=some 8:=by kernel_rfl
@[go_sem] theorem tb_byteEl_52:a0g Tryz.prog 52=false:=by kernel_rfl
@[go_sem] theorem tb_tk_55:tk Tryz.prog 55=TK.slc:=by kernel_rfl
@[go_sem] theorem tb_loadK_55:a0m Tryz.prog 55=some (false,1):=by kernel_rfl
@[go_sem] theorem tb_zeroK_55:a0p Tryz.prog 55=some [Value.slice none 0 0]:=by kernel_rfl
@[go_sem] theorem tb_bytesK_55:a0f Tryz.prog 55=some 24:=by kernel_rfl
@[go_sem] theorem tb_sliceElem_55:a0u Tryz.prog 55=some (87,6):=by kernel_rfl
@[go_sem] theorem tb_arrElem_55:a2a Tryz.prog 55=none:=by kernel_rfl
@[go_sem] theorem tb_byteEl_55:a0g Tryz.prog 55=false:=by kernel_rfl
@[go_sem] theorem tb_tk_56:tk Tryz.prog 56=TK.other:=by kernel_rfl
@[go_sem] theorem tb_loadK_56:a0m Tryz.prog 56=some (false,1):=by kernel_rfl
@[go_sem] theorem tb_zeroK_56:a0p Tryz.prog 56=some [Value.tuple { toList:=[Value.slice none 0 0,Value.int IntKind.i64 0] }]:=by kernel_rfl
@[go_sem] theorem tb_bytesK_56:a0f Tryz.prog 56=some 0:=by kernel_rfl
@[go_sem] theorem tb_byteEl_56:a0g Tryz.prog 56=false:=by kernel_rfl
@[go_sem] theorem tb_tk_59:tk Tryz.prog 59=TK.slc:=by kernel_rfl
@[go_sem] theorem tb_loadK_59:a0m Tryz.prog 59=some (false,1):=by kernel_rfl
@[go_sem] theorem tb_zeroK_59:a0p Tryz.prog 59=some [Value.slice none 0 0]:=by kernel_rfl
@[go_sem] theorem tb_bytesK_59:a0f Tryz.prog 59=some 24:=by kernel_rfl
@[go_sem] theorem tb_sliceElem_59:a0u Tryz.prog 59=some (166,3):=by kernel_rfl
@[go_sem] theorem tb_arrElem_59:a2a Tryz.prog 59=none:=by kernel_rfl
@[go_sem] theorem tb_byteEl_59:a0g Tryz.prog 59=false:=by kernel_rfl
@[go_sem] theorem tb_tk_60:tk Tryz.prog 60=TK.slc:=by kernel_rfl
@[go_sem] theorem tb_loadK_60:a0m Tryz.prog 60=some (false,1):=by kernel_rfl
@[go_sem] theorem tb_zeroK_60:a0p Tryz.prog 60=some [Value.slice none 0 0]:=by kernel_rfl
@[go_sem] theorem tb_bytesK_60:a0f Tryz.prog 60=some 24:=by kernel_rfl
@[go_sem] theorem tb_sliceElem_60:a0u Tryz.prog 60=some (178,9):=by kernel_rfl
@[go_sem] theorem tb_arrElem_60:a2a Tryz.prog 60=none:=by kernel_rfl
@[go_sem] theorem tb_byteEl_60:a0g Tryz.prog 60=false:=by kernel_rfl
@[go_sem] theorem tb_tk_62:tk Tryz.prog 62=TK.other:=by kernel_rfl
@[go_sem] theorem tb_loadK_62:a0m Tryz.prog 62=some (true,2):=by kernel_rfl
@[go_sem] theorem tb_zeroK_62:a0p Tryz.prog 62=some [Value.slice none 0 0,Value.slice none 0 0]:=by kernel_rfl
@[go_sem] theorem tb_bytesK_62:a0f Tryz.prog 62=some 48:=by kernel_rfl
@[go_sem] theorem tb_placesK_62:a0y Tryz.prog 62=some [(0,1),(1,1)]:=by kernel_rfl
@[go_sem] theorem tb_byteEl_62:a0g Tryz.prog 62=false:=by kernel_rfl
@[go_sem] theorem tb_fieldK_62_0:a0t Tryz.prog 62 0=some (0,false,1):=by kernel_rfl
@[go_sem] theorem tb_fieldK_62_1:a0t Tryz.prog 62 1=some (1,false,1):=by kernel_rfl
@[go_sem] theorem tb_tk_64:tk Tryz.prog 64=TK.other:=by kernel_rfl
@[go_sem] theorem tb_loadK_64:a0m Tryz.prog 64=some (false,1):=by kernel_rfl
@[go_sem] theorem tb_zeroK_64:a0p Tryz.prog 64=some [Value.nilFunc]:=by kernel_rfl
@[go_sem] theorem tb_bytesK_64:a0f Tryz.prog 64=some 8:=by kernel_rfl
@[go_sem] theorem tb_byteEl_64:a0g Tryz.prog 64=false:=by kernel_rfl
@[go_sem] theorem tb_tk_65:tk Tryz.prog 65=TK.other:=by kernel_rfl
@[go_sem] theorem tb_loadK_65:a0m Tryz.prog 65=some (false,1):=by kernel_rfl
@[go_sem] theorem tb_zeroK_65:a0p Tryz.prog 65=some [Value.nilFunc]:=by kernel_rfl
@[go_sem] theorem tb_bytesK_65:a0f Tryz.prog 65=some 8:=by kernel_rfl
@[go_sem] theorem tb_byteEl_65:a0g Tryz.prog 65=false:=by kernel_rfl
@[go_sem] theorem tb_tk_68:tk Tryz.prog 68=TK.slc:=by kernel_rfl
@[go_sem] theorem tb_loadK_68:a0m Tryz.prog 68=some (false,1):=by kernel_rfl
@[go_sem] theorem tb_zeroK_68:a0p Tryz.prog 68=some [Value.slice none 0 0]:=by kernel_rfl
@[go_sem] theorem tb_bytesK_68:a0f Tryz.prog 68=some 24:=by kernel_rfl
@[go_sem] theorem tb_sliceElem_68:a0u Tryz.prog 68=some (77,3):=by kernel_rfl
@[go_sem] theorem tb_arrElem_68:a2a Tryz.prog 68=none:=by kernel_rfl
@[go_sem] theorem tb_byteEl_68:a0g Tryz.prog 68=false:=by kernel_rfl
@[go_sem] theorem tb_tk_70:tk Tryz.prog 70=TK.other:=by kernel_rfl
@[go_sem] theorem tb_loadK_70:a0m Tryz.prog 70=some (true,2):=by kernel_rfl
@[go_sem] theorem tb_zeroK_70:a0p Tryz.prog 70=some [Value.slice none 0 0,Value.slice none 0 0]:=by kernel_rfl
@[go_sem] theorem tb_bytesK_70:a0f Tryz.prog 70=some 48:=by kernel_rfl
@[go_sem] theorem tb_placesK_70:a0y Tryz.prog 70=some [(0,1),(1,1)]:=by kernel_rfl
@[go_sem] theorem tb_byteEl_70:a0g Tryz.prog 70=false:=by kernel_rfl
@[go_sem] theorem tb_fieldK_70_0:a0t Tryz.prog 70 0=some (0,false,1):=by kernel_rfl
@[go_sem] theorem tb_fieldK_70_1:a0t Tryz.prog 70 1=some (1,false,1):=by kernel_rfl
@[go_sem] theorem tb_tk_71:tk Tryz.prog 71=TK.other:=by kernel_rfl
@[go_sem] theorem tb_loadK_71:a0m Tryz.prog 71=some (false,1):=by kernel_rfl
@[go_sem] theorem tb_zeroK_71:a0p Tryz.prog 71=some [Value.tuple { toList:=[Value.agg { toList:=[Value.slice none 0 0,Value.slice none 0 0] },Value.int IntKind.i64 0] }]:=by kernel_rfl
@[go_sem] theorem tb_bytesK_71:a0f Tryz.prog 71=some 0:=by kernel_rfl
@[go_sem] theorem tb_byteEl_71:a0g Tryz.prog 71=false:=by kernel_rfl
@[go_sem] theorem tb_tk_77:tk Tryz.prog 77=TK.other:=by kernel_rfl
@[go_sem] theorem tb_loadK_77:a0m Tryz.prog 77=some (true,3):=by kernel_rfl
@[go_sem] theorem tb_zeroK_77:a0p Tryz.prog 77=some [Value.int IntKind.i64 0,Value.int IntKind.i64 0,Value.slice none 0 0]:=by kernel_rfl
@[go_sem] theorem tb_bytesK_77:a0f Tryz.prog 77=some 40:=by kernel_rfl
@[go_sem] theorem tb_placesK_77:a0y Tryz.prog 77=some [(0,1),(1,1),(2,1)]:=by kernel_rfl
@[go_sem] theorem tb_byteEl_77:a0g Tryz.prog 77=false:=by kernel_rfl
@[go_sem] theorem tb_fieldK_77_0:a0t Tryz.prog 77 0=some (0,false,1):=by kernel_rfl
@[go_sem] theorem tb_fieldK_77_1:a0t Tryz.prog 77 1=some (1,false,1):=by kernel_rfl
@[go_sem] theorem tb_fieldK_77_2:a0t Tryz.prog 77 2=some (2,false,1):=by kernel_rfl
@[go_sem] theorem tb_tk_79:tk Tryz.prog 79=TK.slc:=by kernel_rfl
@[go_sem] theorem tb_loadK_79:a0m Tryz.prog 79=some (false,1):=by kernel_rfl
@[go_sem] theorem tb_zeroK_79:a0p Tryz.prog 79=some [Value.slice none 0 0]:=by kernel_rfl
@[go_sem] theorem tb_bytesK_79:a0f Tryz.prog 79=some 24:=by kernel_rfl
@[go_sem] theorem a9i:a0u Tryz.prog 79=some (5,1):=by kernel_rfl
@[go_sem] theorem tb_arrElem_79:a2a Tryz.prog 79=none:=by kernel_rfl
@[go_sem] theorem tb_byteEl_79:a0g Tryz.prog 79=true:=by kernel_rfl
@[go_sem] theorem tb_tk_84:tk Tryz.prog 84=TK.other:=by kernel_rfl
@[go_sem] theorem tb_loadK_84:a0m Tryz.prog 84=some (true,3):=by kernel_rfl
@[go_sem] theorem tb_zeroK_84:a0p Tryz.prog 84=some [Value.int IntKind.i64 0,Value.int IntKind.i64 0,Value.int IntKind.i64 0]:=by kernel_rfl
@[go_sem] theorem tb_bytesK_84:a0f Tryz.prog 84=some 24:=by kernel_rfl
@[go_sem] theorem tb_placesK_84:a0y Tryz.prog 84=some [(0,1),(1,1),(2,1)]:=by kernel_rfl
@[go_sem] theorem tb_byteEl_84:a0g Tryz.prog 84=false:=by kernel_rfl
@[go_sem] theorem tb_flatK_84:a5w Tryz.prog 84=some [TypeDesc.int IntKind.i64,TypeDesc.int IntKind.i64,TypeDesc.int IntKind.i64]:=by kernel_rfl
@[go_sem] theorem tb_fieldK_84_0:a0t Tryz.prog 84 0=some (0,false,1):=by kernel_rfl
@[go_sem] theorem tb_fieldK_84_1:a0t Tryz.prog 84 1=some (1,false,1):=by kernel_rfl
@[go_sem] theorem tb_fieldK_84_2:a0t Tryz.prog 84 2=some (2,false,1):=by kernel_rfl
@[go_sem] theorem tb_tk_87:tk Tryz.prog 87=TK.other:=by kernel_rfl
@[go_sem] theorem tb_loadK_87:a0m Tryz.prog 87=some (true,6):=by kernel_rfl
@[go_sem] theorem tb_zeroK_87:a0p Tryz.prog 87=some [Value.int IntKind.i64 0,Value.int IntKind.i64 0,Value.int IntKind.i64 0,Value.string ByteArray.empty,Value.string ByteArray.empty,Value.string ByteArray.empty]:=by kernel_rfl
@[go_sem] theorem tb_bytesK_87:a0f Tryz.prog 87=some 72:=by kernel_rfl
@[go_sem] theorem tb_placesK_87:a0y Tryz.prog 87=some [(0,3),(3,1),(4,1),(5,1)]:=by kernel_rfl
@[go_sem] theorem tb_byteEl_87:a0g Tryz.prog 87=false:=by kernel_rfl
@[go_sem] theorem tb_flatK_87:a5w Tryz.prog 87=some [TypeDesc.int IntKind.i64,TypeDesc.int IntKind.i64,TypeDesc.int IntKind.i64,TypeDesc.string,TypeDesc.string,TypeDesc.string]:=by kernel_rfl
@[go_sem] theorem tb_fieldK_87_0:a0t Tryz.prog 87 0=some (0,true,3):=by kernel_rfl
@[go_sem] theorem tb_fieldK_87_1:a0t Tryz.prog 87 1=some (3,false,1):=by kernel_rfl
@[go_sem] theorem tb_fieldK_87_2:a0t Tryz.prog 87 2=some (4,false,1):=by kernel_rfl
@[go_sem] theorem tb_fieldK_87_3:a0t Tryz.prog 87 3=some (5,false,1):=by kernel_rfl
@[go_sem] theorem tb_tk_92:tk Tryz.prog 92=TK.other:=by kernel_rfl
@[go_sem] theorem tb_loadK_92:a0m Tryz.prog 92=some (false,1):=by kernel_rfl
@[go_sem] theorem tb_zeroK_92:a0p Tryz.prog 92=some [Value.tuple { toList:=[Value.int IntKind.i64 0,Value.int IntKind.i64 0] }]:=by kernel_rfl
@[go_sem] theorem tb_bytesK_92:a0f Tryz.prog 92=some 0:=by kernel_rfl
@[go_sem] theorem tb_byteEl_92:a0g Tryz.prog 92=false:=by kernel_rfl
@[go_sem] theorem tb_tk_95:tk Tryz.prog 95=TK.other:=by kernel_rfl
@[go_sem] theorem tb_loadK_95:a0m Tryz.prog 95=some (false,1):=by kernel_rfl
@[go_sem] theorem tb_zeroK_95:a0p Tryz.prog 95=some [Value.tuple { toList:=[Value.agg { toList:=[Value.int IntKind.i64 0,Value.int IntKind.i64 0,Value.int IntKind.i64 0] },Value.int IntKind.i64 0] }]:=by kernel_rfl
@[go_sem] theorem tb_bytesK_95:a0f Tryz.prog 95=some 0:=by kernel_rfl
@[go_sem] theorem tb_byteEl_95:a0g Tryz.prog 95=false:=by kernel_rfl
@[go_sem] theorem tb_tk_98:tk Tryz.prog 98=TK.other:=by kernel_rfl
@[go_sem] theorem tb_loadK_98:a0m Tryz.prog 98=some (true,2):=by kernel_rfl
@[go_sem] theorem tb_zeroK_98:a0p Tryz.prog 98=some [Value.string ByteArray.empty,Value.int IntKind.u8 0]:=by kernel_rfl
@[go_sem] theorem tb_bytesK_98:a0f Tryz.prog 98=some 24:=by kernel_rfl
@[go_sem] theorem tb_placesK_98:a0y Tryz.prog 98=some [(0,1),(1,1)]:=by kernel_rfl
@[go_sem] theorem tb_byteEl_98:a0g Tryz.prog 98=false:=by kernel_rfl
@[go_sem] theorem tb_flatK_98:a5w Tryz.prog 98=some [TypeDesc.string,TypeDesc.int IntKind.u8]:=by kernel_rfl
@[go_sem] theorem tb_fieldK_98_0:a0t Tryz.prog 98 0=some (0,false,1):=by kernel_rfl
@[go_sem] theorem tb_fieldK_98_1:a0t Tryz.prog 98 1=some (1,false,1):=by kernel_rfl
@[go_sem] theorem tb_tk_103:tk Tryz.prog 103=TK.other:=by kernel_rfl
@[go_sem] theorem tb_loadK_103:a0m Tryz.prog 103=some (true,2):=by kernel_rfl
@[go_sem] theorem tb_zeroK_103:a0p Tryz.prog 103=some [Value.int IntKind.i64 0,Value.int IntKind.u8 0]:=by kernel_rfl
@[go_sem] theorem tb_bytesK_103:a0f Tryz.prog 103=some 16:=by kernel_rfl
@[go_sem] theorem tb_placesK_103:a0y Tryz.prog 103=some [(0,1),(1,1)]:=by kernel_rfl
@[go_sem] theorem tb_byteEl_103:a0g Tryz.prog 103=false:=by kernel_rfl
@[go_sem] theorem tb_flatK_103:a5w Tryz.prog 103=some [TypeDesc.int IntKind.i64,TypeDesc.int IntKind.u8]:=by kernel_rfl
@[go_sem] theorem tb_fieldK_103_0:a0t Tryz.prog 103 0=some (0,false,1):=by kernel_rfl
@[go_sem] theorem tb_fieldK_103_1:a0t Tryz.prog 103 1=some (1,false,1):=by kernel_rfl
@[go_sem] theorem tb_tk_107:tk Tryz.prog 107=TK.other:=by kernel_rfl
@[go_sem] theorem tb_loadK_107:a0m Tryz.prog 107=some (false,1):=by kernel_rfl
@[go_sem] theorem tb_zeroK_107:a0p Tryz.prog 107=some [Value.tuple { toList:=[Value.int IntKind.u8 0,Value.int IntKind.i64 0] }]:=by kernel_rfl
@[go_sem] theorem tb_bytesK_107:a0f Tryz.prog 107=some 0:=by kernel_rfl
@[go_sem] theorem tb_byteEl_107:a0g Tryz.prog 107=false:=by kernel_rfl
@[go_sem] theorem tb_tk_113:tk Tryz.prog 113=TK.slc:=by kernel_rfl
@[go_sem] theorem tb_loadK_113:a0m Tryz.prog 113=some (false,1):=by kernel_rfl
@[go_sem] theorem tb_zeroK_113:a0p Tryz.prog 113=some [Value.slice none 0 0]:=by kernel_rfl
@[go_sem] theorem tb_bytesK_113:a0f Tryz.prog 113=some 24:=by kernel_rfl
@[go_sem] theorem tb_sliceElem_113:a0u Tryz.prog 113=some (32,1):=by kernel_rfl
@[go_sem] theorem tb_arrElem_113:a2a Tryz.prog 113=none:=by kernel_rfl
@[go_sem] theorem tb_byteEl_113:a0g Tryz.prog 113=false:=by kernel_rfl
@[go_sem] theorem tb_tk_115:tk Tryz.prog 115=TK.other:=by kernel_rfl
@[go_sem] theorem tb_loadK_115:a0m Tryz.prog 115=some (true,2):=by kernel_rfl
@[go_sem] theorem tb_zeroK_115:a0p Tryz.prog 115=some [Value.int IntKind.i64 0,Value.slice none 0 0]:=by kernel_rfl
@[go_sem] theorem tb_bytesK_115:a0f Tryz.prog 115=some 32:=by kernel_rfl
@[go_sem] theorem tb_placesK_115:a0y Tryz.prog 115=some [(0,1),(1,1)]:=by kernel_rfl
@[go_sem] theorem tb_byteEl_115:a0g Tryz.prog 115=false:=by kernel_rfl
@[go_sem] theorem tb_fieldK_115_0:a0t Tryz.prog 115 0=some (0,false,1):=by kernel_rfl
@[go_sem] theorem tb_fieldK_115_1:a0t Tryz.prog 115 1=some (1,false,1):=by kernel_rfl
@[go_sem] theorem tb_tk_117:tk Tryz.prog 117=TK.mp:=by kernel_rfl
@[go_sem] theorem tb_loadK_117:a0m Tryz.prog 117=some (false,1):=by kernel_rfl
@[go_sem] theorem tb_zeroK_117:a0p Tryz.prog 117=some [Value.map none]:=by kernel_rfl
@[go_sem] theorem tb_bytesK_117:a0f Tryz.prog 117=some 8:=by kernel_rfl
@[go_sem] theorem tb_byteEl_117:a0g Tryz.prog 117=false:=by kernel_rfl
@[go_sem] theorem tb_mapK_117:c2a Tryz.prog 117=some (KD.int IntKind.i64,V.v (Value.bool false)):=by kernel_rfl
@[go_sem] theorem tb_tk_119:tk Tryz.prog 119=TK.other:=by kernel_rfl
@[go_sem] theorem tb_loadK_119:a0m Tryz.prog 119=some (false,1):=by kernel_rfl
@[go_sem] theorem tb_zeroK_119:a0p Tryz.prog 119=some [Value.nilFunc]:=by kernel_rfl
@[go_sem] theorem tb_bytesK_119:a0f Tryz.prog 119=some 8:=by kernel_rfl
@[go_sem] theorem tb_byteEl_119:a0g Tryz.prog 119=false:=by kernel_rfl
@[go_sem] theorem tb_tk_124:tk Tryz.prog 124=TK.ptr:=by kernel_rfl
@[go_sem] theorem tb_loadK_124:a0m Tryz.prog 124=some (false,1):=by kernel_rfl
@[go_sem] theorem tb_zeroK_124:a0p Tryz.prog 124=some [Value.pointer none]:=by kernel_rfl
@[go_sem] theorem tb_bytesK_124:a0f Tryz.prog 124=some 8:=by kernel_rfl
@[go_sem] theorem tb_byteEl_124:a0g Tryz.prog 124=false:=by kernel_rfl
@[go_sem] theorem tb_tk_126:tk Tryz.prog 126=TK.other:=by kernel_rfl
@[go_sem] theorem tb_loadK_126:a0m Tryz.prog 126=some (true,2):=by kernel_rfl
@[go_sem] theorem tb_zeroK_126:a0p Tryz.prog 126=some [Value.pointer none,Value.slice none 0 0]:=by kernel_rfl
@[go_sem] theorem tb_bytesK_126:a0f Tryz.prog 126=some 32:=by kernel_rfl
@[go_sem] theorem tb_placesK_126:a0y Tryz.prog 126=some [(0,1),(1,1)]:=by kernel_rfl
@[go_sem] theorem tb_byteEl_126:a0g Tryz.prog 126=false:=by kernel_rfl
@[go_sem] theorem tb_fieldK_126_0:a0t Tryz.prog 126 0=some (0,false,1):=by kernel_rfl
@[go_sem] theorem tb_fieldK_126_1:a0t Tryz.prog 126 1=some (1,false,1):=by kernel_rfl
@[go_sem] theorem tb_tk_128:tk Tryz.prog 128=TK.other:=by kernel_rfl
@[go_sem] theorem tb_loadK_128:a0m Tryz.prog 128=some (false,1):=by kernel_rfl
@[go_sem] theorem tb_zeroK_128:a0p Tryz.prog 128=some [Value.nilIface]:=by kernel_rfl
@[go_sem] theorem tb_bytesK_128:a0f Tryz.prog 128=some 16:=by kernel_rfl
@[go_sem] theorem tb_byteEl_128:a0g Tryz.prog 128=false:=by kernel_rfl
@[go_sem] theorem tb_tk_129:tk Tryz.prog 129=TK.other:=by kernel_rfl
@[go_sem] theorem tb_loadK_129:a0m Tryz.prog 129=some (false,1):=by kernel_rfl
@[go_sem] theorem tb_zeroK_129:a0p Tryz.prog 129=some [Value.tuple { toList:=[Value.int IntKind.i64 0,Value.nilIface] }]:=by kernel_rfl
@[go_sem] theorem tb_bytesK_129:a0f Tryz.prog 129=some 0:=by kernel_rfl
@[go_sem] theorem tb_byteEl_129:a0g Tryz.prog 129=false:=by kernel_rfl
@[go_sem] theorem tb_tk_134:tk Tryz.prog 134=TK.other:=by kernel_rfl
@[go_sem] theorem tb_loadK_134:a0m Tryz.prog 134=some (false,1):=by kernel_rfl
@[go_sem] theorem tb_zeroK_134:a0p Tryz.prog 134=some [Value.nilFunc]:=by kernel_rfl
@[go_sem] theorem tb_bytesK_134:a0f Tryz.prog 134=some 8:=by kernel_rfl
@[go_sem] theorem tb_byteEl_134:a0g Tryz.prog 134=false:=by kernel_rfl
@[go_sem] theorem tb_tk_135:tk Tryz.prog 135=TK.other:=by kernel_rfl
@[go_sem] theorem tb_loadK_135:a0m Tryz.prog 135=some (false,1):=by kernel_rfl
@[go_sem] theorem tb_zeroK_135:a0p Tryz.prog 135=some [Value.nilFunc]:=by kernel_rfl
@[go_sem] theorem tb_bytesK_135:a0f Tryz.prog 135=some 8:=by kernel_rfl
@[go_sem] theorem tb_byteEl_135:a0g Tryz.prog 135=false:=by kernel_rfl
@[go_sem] theorem tb_tk_138:tk Tryz.prog 138=TK.ptr:=by kernel_rfl
@[go_sem] theorem tb_loadK_138:a0m Tryz.prog 138=some (false,1):=by kernel_rfl
@[go_sem] theorem tb_zeroK_138:a0p Tryz.prog 138=some [Value.pointer none]:=by kernel_rfl
@[go_sem] theorem tb_bytesK_138:a0f Tryz.prog 138=some 8:=by kernel_rfl
@[go_sem] theorem tb_byteEl_138:a0g Tryz.prog 138=false:=by kernel_rfl
@[go_sem] theorem tb_tk_140:tk Tryz.prog 140=TK.ptr:=by kernel_rfl
@[go_sem] theorem tb_loadK_140:a0m Tryz.prog 140=some (false,1):=by kernel_rfl
@[go_sem] theorem tb_zeroK_140:a0p Tryz.prog 140=some [Value.pointer none]:=by kernel_rfl
@[go_sem] theorem tb_bytesK_140:a0f Tryz.prog 140=some 8:=by kernel_rfl
@[go_sem] theorem tb_byteEl_140:a0g Tryz.prog 140=false:=by kernel_rfl
@[go_sem] theorem tb_tk_145:tk Tryz.prog 145=TK.other:=by kernel_rfl
@[go_sem] theorem tb_loadK_145:a0m Tryz.prog 145=some (true,1):=by kernel_rfl
@[go_sem] theorem tb_zeroK_145:a0p Tryz.prog 145=some [Value.int IntKind.i64 0]:=by kernel_rfl
@[go_sem] theorem tb_bytesK_145:a0f Tryz.prog 145=some 8:=by kernel_rfl
@[go_sem] theorem tb_placesK_145:a0y Tryz.prog 145=some [(0,1)]:=by kernel_rfl
@[go_sem] theorem tb_byteEl_145:a0g Tryz.prog 145=false:=by kernel_rfl
@[go_sem] theorem tb_flatK_145:a5w Tryz.prog 145=some [TypeDesc.int IntKind.i64]:=by kernel_rfl
@[go_sem] theorem tb_fieldK_145_0:a0t Tryz.prog 145 0=some (0,false,1):=by kernel_rfl
@[go_sem] theorem tb_tk_146:tk Tryz.prog 146=TK.other:=by kernel_rfl
@[go_sem] theorem tb_loadK_146:a0m Tryz.prog 146=some (false,1):=by kernel_rfl
@[go_sem] theorem tb_zeroK_146:a0p Tryz.prog 146=some [Value.nilFunc]:=by kernel_rfl
@[go_sem] theorem tb_bytesK_146:a0f Tryz.prog 146=some 8:=by kernel_rfl
@[go_sem] theorem tb_byteEl_146:a0g Tryz.prog 146=false:=by kernel_rfl
@[go_sem] theorem tb_tk_148:tk Tryz.prog 148=TK.other:=by kernel_rfl
@[go_sem] theorem tb_loadK_148:a0m Tryz.prog 148=some (true,5):=by kernel_rfl
@[go_sem] theorem tb_zeroK_148:a0p Tryz.prog 148=some [Value.int IntKind.i64 0,Value.int IntKind.i64 0,Value.int IntKind.i64 0,Value.int IntKind.u8 0,Value.string ByteArray.empty]:=by kernel_rfl
@[go_sem] theorem tb_bytesK_148:a0f Tryz.prog 148=some 48:=by kernel_rfl
@[go_sem] theorem tb_placesK_148:a0y Tryz.prog 148=some [(0,3),(3,1),(4,1)]:=by kernel_rfl
@[go_sem] theorem tb_byteEl_148:a0g Tryz.prog 148=false:=by kernel_rfl
@[go_sem] theorem tb_flatK_148:a5w Tryz.prog 148=some [TypeDesc.int IntKind.i64,TypeDesc.int IntKind.i64,TypeDesc.int IntKind.i64,TypeDesc.int IntKind.u8,TypeDesc.string]:=by kernel_rfl
@[go_sem] theorem tb_fieldK_148_0:a0t Tryz.prog 148 0=some (0,true,3):=by kernel_rfl
@[go_sem] theorem tb_fieldK_148_1:a0t Tryz.prog 148 1=some (3,false,1):=by kernel_rfl
@[go_sem] theorem tb_fieldK_148_2:a0t Tryz.prog 148 2=some (4,false,1):=by kernel_rfl
@[go_sem] theorem tb_tk_152:tk Tryz.prog 152=TK.other:=by kernel_rfl
@[go_sem] theorem tb_loadK_152:a0m Tryz.prog 152=some (true,4):=by kernel_rfl
@[go_sem] theorem tb_zeroK_152:a0p Tryz.prog 152=some [Value.string ByteArray.empty,Value.string ByteArray.empty,Value.string ByteArray.empty,Value.string ByteArray.empty]:=by kernel_rfl
@[go_sem] theorem tb_bytesK_152:a0f Tryz.prog 152=some 64:=by kernel_rfl
@[go_sem] theorem tb_sliceElem_152:a0u Tryz.prog 152=none:=by kernel_rfl
@[go_sem] theorem tb_arrElem_152:a2a Tryz.prog 152=some (4,1):=by kernel_rfl
@[go_sem] theorem tb_placesK_152:a0y Tryz.prog 152=some [(0,1),(1,1),(2,1),(3,1),(4,1),(5,1),(6,1),(7,1)]:=by kernel_rfl
@[go_sem] theorem tb_byteEl_152:a0g Tryz.prog 152=false:=by kernel_rfl
@[go_sem] theorem tb_flatK_152:a5w Tryz.prog 152=some [TypeDesc.string,TypeDesc.string,TypeDesc.string,TypeDesc.string]:=by kernel_rfl
@[go_sem] theorem tb_arrLoad_152:a3c Tryz.prog 152=some (4,false,1):=by kernel_rfl
@[go_sem] theorem tb_tk_158:tk Tryz.prog 158=TK.ptr:=by kernel_rfl
@[go_sem] theorem tb_loadK_158:a0m Tryz.prog 158=some (false,1):=by kernel_rfl
@[go_sem] theorem tb_zeroK_158:a0p Tryz.prog 158=some [Value.pointer none]:=by kernel_rfl
@[go_sem] theorem tb_bytesK_158:a0f Tryz.prog 158=some 8:=by kernel_rfl
@[go_sem] theorem tb_byteEl_158:a0g Tryz.prog 158=false:=by kernel_rfl
@[go_sem] theorem tb_tk_159:tk Tryz.prog 159=TK.other:=by kernel_rfl
@[go_sem] theorem tb_loadK_159:a0m Tryz.prog 159=some (false,1):=by kernel_rfl
@[go_sem] theorem tb_zeroK_159:a0p Tryz.prog 159=some [Value.tuple { toList:=[Value.pointer none,Value.int IntKind.i64 0] }]:=by kernel_rfl
@[go_sem] theorem tb_bytesK_159:a0f Tryz.prog 159=some 0:=by kernel_rfl
@[go_sem] theorem tb_byteEl_159:a0g Tryz.prog 159=false:=by kernel_rfl
@[go_sem] theorem tb_tk_162:tk Tryz.prog 162=TK.mp:=by kernel_rfl
@[go_sem] theorem tb_loadK_162:a0m Tryz.prog 162=some (false,1):=by kernel_rfl
@[go_sem] theorem tb_zeroK_162:a0p Tryz.prog 162=some [Value.map none]:=by kernel_rfl
@[go_sem] theorem tb_bytesK_162:a0f Tryz.prog 162=some 8:=by kernel_rfl
@[go_sem] theorem tb_byteEl_162:a0g Tryz.prog 162=false:=by kernel_rfl
@[go_sem] theorem tb_mapK_162:c2a Tryz.prog 162=some (KD.string,V.v (Value.bool false)):=by kernel_rfl
@[go_sem] theorem tb_tk_163:tk Tryz.prog 163=TK.ptr:=by kernel_rfl
@[go_sem] theorem tb_loadK_163:a0m Tryz.prog 163=some (false,1):=by kernel_rfl
@[go_sem] theorem tb_zeroK_163:a0p Tryz.prog 163=some [Value.pointer none]:=by kernel_rfl
@[go_sem] theorem tb_bytesK_163:a0f Tryz.prog 163=some 8:=by kernel_rfl
@[go_sem] theorem tb_byteEl_163:a0g Tryz.prog 163=false:=by kernel_rfl
@[go_sem] theorem tb_tk_166:tk Tryz.prog 166=TK.other:=by kernel_rfl
@[go_sem] theorem tb_loadK_166:a0m Tryz.prog 166=some (true,3):=by kernel_rfl
@[go_sem] theorem tb_zeroK_166:a0p Tryz.prog 166=some [Value.string ByteArray.empty,Value.string ByteArray.empty,Value.int IntKind.i64 0]:=by kernel_rfl
@[go_sem] theorem tb_bytesK_166:a0f Tryz.prog 166=some 40:=by kernel_rfl
@[go_sem] theorem tb_placesK_166:a0y Tryz.prog 166=some [(0,1),(1,1),(2,1)]:=by kernel_rfl
@[go_sem] theorem tb_byteEl_166:a0g Tryz.prog 166=false:=by kernel_rfl
@[go_sem] theorem tb_flatK_166:a5w Tryz.prog 166=some [TypeDesc.string,TypeDesc.string,TypeDesc.int IntKind.i64]:=by kernel_rfl
@[go_sem] theorem tb_fieldK_166_0:a0t Tryz.prog 166 0=some (0,false,1):=by kernel_rfl
@[go_sem] theorem tb_fieldK_166_1:a0t Tryz.prog 166 1=some (1,false,1):=by kernel_rfl
@[go_sem] theorem tb_fieldK_166_2:a0t Tryz.prog 166 2=some (2,false,1):=by kernel_rfl
@[go_sem] theorem tb_tk_168:tk Tryz.prog 168=TK.other:=by kernel_rfl
@[go_sem] theorem tb_loadK_168:a0m Tryz.prog 168=some (true,1):=by kernel_rfl
@[go_sem] theorem tb_zeroK_168:a0p Tryz.prog 168=some [Value.slice none 0 0]:=by kernel_rfl
@[go_sem] theorem tb_bytesK_168:a0f Tryz.prog 168=some 24:=by kernel_rfl
@[go_sem] theorem tb_placesK_168:a0y Tryz.prog 168=some [(0,1)]:=by kernel_rfl
@[go_sem] theorem tb_byteEl_168:a0g Tryz.prog 168=false:=by kernel_rfl
@[go_sem] theorem tb_fieldK_168_0:a0t Tryz.prog 168 0=some (0,false,1):=by kernel_rfl
@[go_sem] theorem tb_tk_171:tk Tryz.prog 171=TK.other:=by kernel_rfl
@[go_sem] theorem tb_loadK_171:a0m Tryz.prog 171=some (false,1):=by kernel_rfl
@[go_sem] theorem tb_zeroK_171:a0p Tryz.prog 171=some [Value.nilFunc]:=by kernel_rfl
@[go_sem] theorem tb_bytesK_171:a0f Tryz.prog 171=some 8:=by kernel_rfl
@[go_sem] theorem tb_byteEl_171:a0g Tryz.prog 171=false:=by kernel_rfl
@[go_sem] theorem tb_tk_174:tk Tryz.prog 174=TK.other:=by kernel_rfl
@[go_sem] theorem tb_loadK_174:a0m Tryz.prog 174=some (true,3):=by kernel_rfl
@[go_sem] theorem tb_zeroK_174:a0p Tryz.prog 174=some [Value.string ByteArray.empty,Value.nilFunc,Value.nilFunc]:=by kernel_rfl
@[go_sem] theorem tb_bytesK_174:a0f Tryz.prog 174=some 32:=by kernel_rfl
@[go_sem] theorem tb_placesK_174:a0y Tryz.prog 174=some [(0,1),(1,1),(2,1)]:=by kernel_rfl
@[go_sem] theorem tb_byteEl_174:a0g Tryz.prog 174=false:=by kernel_rfl
@[go_sem] theorem tb_fieldK_174_0:a0t Tryz.prog 174 0=some (0,false,1):=by kernel_rfl
@[go_sem] theorem tb_fieldK_174_1:a0t Tryz.prog 174 1=some (1,false,1):=by kernel_rfl
@[go_sem] theorem tb_fieldK_174_2:a0t Tryz.prog 174 2=some (2,false,1):=by kernel_rfl
@[go_sem] theorem tb_tk_175:tk Tryz.prog 175=TK.other:=by kernel_rfl
@[go_sem] theorem tb_loadK_175:a0m Tryz.prog 175=some (true,15):=by kernel_rfl
@[go_sem] theorem tb_zeroK_175:a0p Tryz.prog 175=some [Value.string ByteArray.empty,Value.nilFunc,Value.nilFunc,Value.string ByteArray.empty,Value.nilFunc,Value.nilFunc,Value.string ByteArray.empty,Value.nilFunc,Value.nilFunc,Value.string ByteArray.empty,Value.nilFunc,Value.nilFunc,Value.string ByteArray.empty,Value.nilFunc,Value.nilFunc]:=by kernel_rfl
@[go_sem] theorem tb_bytesK_175:a0f Tryz.prog 175=some 160:=by kernel_rfl
@[go_sem] theorem tb_sliceElem_175:a0u Tryz.prog 175=none:=by kernel_rfl
@[go_sem] theorem tb_arrElem_175:a2a Tryz.prog 175=some (5,3):=by kernel_rfl
@[go_sem] theorem tb_placesK_175:a0y Tryz.prog 175=some [(0,3),(3,3),(6,3),(9,3),(12,3),(15,3),(18,3),(21,3)]:=by kernel_rfl
@[go_sem] theorem tb_byteEl_175:a0g Tryz.prog 175=false:=by kernel_rfl
@[go_sem] theorem tb_arrLoad_175:a3c Tryz.prog 175=some (5,true,3):=by kernel_rfl
@[go_sem] theorem tb_tk_178:tk Tryz.prog 178=TK.other:=by kernel_rfl
@[go_sem] theorem tb_loadK_178:a0m Tryz.prog 178=some (true,9):=by kernel_rfl
@[go_sem] theorem tb_zeroK_178:a0p Tryz.prog 178=some [Value.int IntKind.i64 0,Value.int IntKind.u8 0,Value.string ByteArray.empty,Value.int IntKind.i64 0,Value.int IntKind.i64 0,Value.int IntKind.i64 0,Value.string ByteArray.empty,Value.int IntKind.u8 0,Value.int IntKind.i64 0]:=by kernel_rfl
@[go_sem] theorem tb_bytesK_178:a0f Tryz.prog 178=some 88:=by kernel_rfl
@[go_sem] theorem tb_placesK_178:a0y Tryz.prog 178=some [(0,1),(1,1),(2,1),(3,3),(6,2),(8,1)]:=by kernel_rfl
@[go_sem] theorem tb_byteEl_178:a0g Tryz.prog 178=false:=by kernel_rfl
@[go_sem] theorem tb_flatK_178:a5w Tryz.prog 178=some [TypeDesc.int IntKind.i64,TypeDesc.int IntKind.u8,TypeDesc.string,TypeDesc.int IntKind.i64,TypeDesc.int IntKind.i64,TypeDesc.int IntKind.i64,TypeDesc.string,TypeDesc.int IntKind.u8,TypeDesc.int IntKind.i64]:=by kernel_rfl
@[go_sem] theorem tb_fieldK_178_0:a0t Tryz.prog 178 0=some (0,false,1):=by kernel_rfl
@[go_sem] theorem tb_fieldK_178_1:a0t Tryz.prog 178 1=some (1,false,1):=by kernel_rfl
@[go_sem] theorem tb_fieldK_178_2:a0t Tryz.prog 178 2=some (2,false,1):=by kernel_rfl
@[go_sem] theorem tb_fieldK_178_3:a0t Tryz.prog 178 3=some (3,true,3):=by kernel_rfl
@[go_sem] theorem tb_fieldK_178_4:a0t Tryz.prog 178 4=some (6,true,2):=by kernel_rfl
@[go_sem] theorem tb_fieldK_178_5:a0t Tryz.prog 178 5=some (8,false,1):=by kernel_rfl
@[go_sem] theorem tb_tk_181:tk Tryz.prog 181=TK.other:=by kernel_rfl
@[go_sem] theorem tb_loadK_181:a0m Tryz.prog 181=some (false,1):=by kernel_rfl
@[go_sem] theorem tb_zeroK_181:a0p Tryz.prog 181=some [Value.nilFunc]:=by kernel_rfl
@[go_sem] theorem tb_bytesK_181:a0f Tryz.prog 181=some 8:=by kernel_rfl
@[go_sem] theorem tb_byteEl_181:a0g Tryz.prog 181=false:=by kernel_rfl
@[go_sem] theorem tb_tk_182:tk Tryz.prog 182=TK.other:=by kernel_rfl
@[go_sem] theorem tb_loadK_182:a0m Tryz.prog 182=some (false,1):=by kernel_rfl
@[go_sem] theorem tb_zeroK_182:a0p Tryz.prog 182=some [Value.nilFunc]:=by kernel_rfl
@[go_sem] theorem tb_bytesK_182:a0f Tryz.prog 182=some 8:=by kernel_rfl
@[go_sem] theorem tb_byteEl_182:a0g Tryz.prog 182=false:=by kernel_rfl
@[go_sem] theorem tb_tk_185:tk Tryz.prog 185=TK.other:=by kernel_rfl
@[go_sem] theorem tb_loadK_185:a0m Tryz.prog 185=some (false,1):=by kernel_rfl
@[go_sem] theorem tb_zeroK_185:a0p Tryz.prog 185=some [Value.nilFunc]:=by kernel_rfl
@[go_sem] theorem tb_bytesK_185:a0f Tryz.prog 185=some 8:=by kernel_rfl
@[go_sem] theorem tb_byteEl_185:a0g Tryz.prog 185=false:=by kernel_rfl
@[go_sem] theorem tb_tk_186:tk Tryz.prog 186=TK.ptr:=by kernel_rfl
@[go_sem] theorem tb_loadK_186:a0m Tryz.prog 186=some (false,1):=by kernel_rfl
@[go_sem] theorem tb_zeroK_186:a0p Tryz.prog 186=some [Value.pointer none]:=by kernel_rfl
@[go_sem] theorem tb_bytesK_186:a0f Tryz.prog 186=some 8:=by kernel_rfl
@[go_sem] theorem tb_byteEl_186:a0g Tryz.prog 186=false:=by kernel_rfl
@[go_sem] theorem tb_tk_187:tk Tryz.prog 187=TK.other:=by kernel_rfl
@[go_sem] theorem tb_loadK_187:a0m Tryz.prog 187=some (false,1):=by kernel_rfl
@[go_sem] theorem tb_zeroK_187:a0p Tryz.prog 187=some [Value.tuple { toList:=[Value.pointer none,Value.int IntKind.i64 0] }]:=by kernel_rfl
@[go_sem] theorem tb_bytesK_187:a0f Tryz.prog 187=some 0:=by kernel_rfl
@[go_sem] theorem tb_byteEl_187:a0g Tryz.prog 187=false:=by kernel_rfl
@[go_sem] theorem tb_tk_190:tk Tryz.prog 190=TK.other:=by kernel_rfl
@[go_sem] theorem tb_loadK_190:a0m Tryz.prog 190=some (true,3):=by kernel_rfl
@[go_sem] theorem tb_zeroK_190:a0p Tryz.prog 190=some [Value.slice none 0 0,Value.slice none 0 0,Value.slice none 0 0]:=by kernel_rfl
@[go_sem] theorem tb_bytesK_190:a0f Tryz.prog 190=some 72:=by kernel_rfl
@[go_sem] theorem tb_placesK_190:a0y Tryz.prog 190=some [(0,2),(2,1)]:=by kernel_rfl
@[go_sem] theorem tb_byteEl_190:a0g Tryz.prog 190=false:=by kernel_rfl
@[go_sem] theorem tb_fieldK_190_0:a0t Tryz.prog 190 0=some (0,true,2):=by kernel_rfl
@[go_sem] theorem tb_fieldK_190_1:a0t Tryz.prog 190 1=some (2,false,1):=by kernel_rfl
@[go_sem] theorem tb_tk_194:tk Tryz.prog 194=TK.other:=by kernel_rfl
@[go_sem] theorem tb_loadK_194:a0m Tryz.prog 194=some (false,1):=by kernel_rfl
@[go_sem] theorem tb_zeroK_194:a0p Tryz.prog 194=some [Value.nilFunc]:=by kernel_rfl
@[go_sem] theorem tb_bytesK_194:a0f Tryz.prog 194=some 8:=by kernel_rfl
@[go_sem] theorem tb_byteEl_194:a0g Tryz.prog 194=false:=by kernel_rfl
@[go_sem] theorem tb_tk_200:tk Tryz.prog 200=TK.other:=by kernel_rfl
@[go_sem] theorem tb_loadK_200:a0m Tryz.prog 200=some (false,1):=by kernel_rfl
@[go_sem] theorem tb_zeroK_200:a0p Tryz.prog 200=some [Value.nilFunc]:=by kernel_rfl
@[go_sem] theorem tb_bytesK_200:a0f Tryz.prog 200=some 8:=by kernel_rfl
@[go_sem] theorem tb_byteEl_200:a0g Tryz.prog 200=false:=by kernel_rfl
@[go_sem] theorem tb_tk_201:tk Tryz.prog 201=TK.other:=by kernel_rfl
@[go_sem] theorem tb_loadK_201:a0m Tryz.prog 201=some (false,1):=by kernel_rfl
@[go_sem] theorem tb_zeroK_201:a0p Tryz.prog 201=some [Value.nilFunc]:=by kernel_rfl
@[go_sem] theorem tb_bytesK_201:a0f Tryz.prog 201=some 8:=by kernel_rfl
@[go_sem] theorem tb_byteEl_201:a0g Tryz.prog 201=false:=by kernel_rfl
@[go_sem] theorem tb_tk_206:tk Tryz.prog 206=TK.other:=by kernel_rfl
@[go_sem] theorem tb_loadK_206:a0m Tryz.prog 206=some (false,1):=by kernel_rfl
@[go_sem] theorem tb_zeroK_206:a0p Tryz.prog 206=some [Value.tuple { toList:=[Value.agg { toList:=[Value.int IntKind.i64 0,Value.int IntKind.i64 0,Value.int IntKind.i64 0,Value.string ByteArray.empty,Value.string ByteArray.empty,Value.string ByteArray.empty] },Value.bool false] }]:=by kernel_rfl
@[go_sem] theorem tb_bytesK_206:a0f Tryz.prog 206=some 0:=by kernel_rfl
@[go_sem] theorem tb_byteEl_206:a0g Tryz.prog 206=false:=by kernel_rfl
@[go_sem] theorem tb_tk_209:tk Tryz.prog 209=TK.other:=by kernel_rfl
@[go_sem] theorem tb_loadK_209:a0m Tryz.prog 209=some (false,1):=by kernel_rfl
@[go_sem] theorem tb_zeroK_209:a0p Tryz.prog 209=some [Value.nilFunc]:=by kernel_rfl
@[go_sem] theorem tb_bytesK_209:a0f Tryz.prog 209=some 8:=by kernel_rfl
@[go_sem] theorem tb_byteEl_209:a0g Tryz.prog 209=false:=by kernel_rfl
@[go_sem] theorem tb_tk_210:tk Tryz.prog 210=TK.other:=by kernel_rfl
@[go_sem] theorem tb_loadK_210:a0m Tryz.prog 210=some (false,1):=by kernel_rfl
@[go_sem] theorem tb_zeroK_210:a0p Tryz.prog 210=some [Value.nilFunc]:=by kernel_rfl
@[go_sem] theorem tb_bytesK_210:a0f Tryz.prog 210=some 8:=by kernel_rfl
@[go_sem] theorem tb_byteEl_210:a0g Tryz.prog 210=false:=by kernel_rfl
@[go_sem] theorem tb_tk_212:tk Tryz.prog 212=TK.other:=by kernel_rfl
@[go_sem] theorem tb_loadK_212:a0m Tryz.prog 212=some (false,1):=by kernel_rfl
@[go_sem] theorem tb_zeroK_212:a0p Tryz.prog 212=some [Value.nilFunc]:=by kernel_rfl
@[go_sem] theorem tb_bytesK_212:a0f Tryz.prog 212=some 8:=by kernel_rfl
@[go_sem] theorem tb_byteEl_212:a0g Tryz.prog 212=false:=by kernel_rfl
@[go_sem] theorem tb_tk_213:tk Tryz.prog 213=TK.slc:=by kernel_rfl
@[go_sem] theorem tb_loadK_213:a0m Tryz.prog 213=some (false,1):=by kernel_rfl
@[go_sem] theorem tb_zeroK_213:a0p Tryz.prog 213=some [Value.slice none 0 0]:=by kernel_rfl
@[go_sem] theorem tb_bytesK_213:a0f Tryz.prog 213=some 24:=by kernel_rfl
@[go_sem] theorem tb_sliceElem_213:a0u Tryz.prog 213=some (3,1):=by kernel_rfl
@[go_sem] theorem tb_arrElem_213:a2a Tryz.prog 213=none:=by kernel_rfl
@[go_sem] theorem tb_byteEl_213:a0g Tryz.prog 213=false:=by kernel_rfl
@[go_sem] theorem tb_tk_215:tk Tryz.prog 215=TK.other:=by kernel_rfl
@[go_sem] theorem tb_loadK_215:a0m Tryz.prog 215=some (false,1):=by kernel_rfl
@[go_sem] theorem tb_zeroK_215:a0p Tryz.prog 215=some [Value.nilFunc]:=by kernel_rfl
@[go_sem] theorem tb_bytesK_215:a0f Tryz.prog 215=some 8:=by kernel_rfl
@[go_sem] theorem tb_byteEl_215:a0g Tryz.prog 215=false:=by kernel_rfl
@[go_sem] theorem tb_tk_218:tk Tryz.prog 218=TK.other:=by kernel_rfl
@[go_sem] theorem tb_loadK_218:a0m Tryz.prog 218=some (false,1):=by kernel_rfl
@[go_sem] theorem tb_zeroK_218:a0p Tryz.prog 218=some [Value.nilFunc]:=by kernel_rfl
@[go_sem] theorem tb_bytesK_218:a0f Tryz.prog 218=some 8:=by kernel_rfl
@[go_sem] theorem tb_byteEl_218:a0g Tryz.prog 218=false:=by kernel_rfl
@[go_sem] theorem tb_tk_221:tk Tryz.prog 221=TK.ptr:=by kernel_rfl
@[go_sem] theorem tb_loadK_221:a0m Tryz.prog 221=some (false,1):=by kernel_rfl
@[go_sem] theorem tb_zeroK_221:a0p Tryz.prog 221=some [Value.pointer none]:=by kernel_rfl
@[go_sem] theorem tb_bytesK_221:a0f Tryz.prog 221=some 8:=by kernel_rfl
@[go_sem] theorem tb_byteEl_221:a0g Tryz.prog 221=false:=by kernel_rfl
@[go_sem] theorem tb_tk_222:tk Tryz.prog 222=TK.other:=by kernel_rfl
@[go_sem] theorem tb_loadK_222:a0m Tryz.prog 222=some (false,1):=by kernel_rfl
@[go_sem] theorem tb_zeroK_222:a0p Tryz.prog 222=some [Value.tuple { toList:=[Value.string ByteArray.empty,Value.string ByteArray.empty,Value.bool false] }]:=by kernel_rfl
@[go_sem] theorem tb_bytesK_222:a0f Tryz.prog 222=some 0:=by kernel_rfl
@[go_sem] theorem tb_byteEl_222:a0g Tryz.prog 222=false:=by kernel_rfl
@[go_sem] theorem tb_tk_224:tk Tryz.prog 224=TK.other:=by kernel_rfl
@[go_sem] theorem tb_loadK_224:a0m Tryz.prog 224=some (false,1):=by kernel_rfl
@[go_sem] theorem tb_zeroK_224:a0p Tryz.prog 224=some [Value.nilFunc]:=by kernel_rfl
@[go_sem] theorem tb_bytesK_224:a0f Tryz.prog 224=some 8:=by kernel_rfl
@[go_sem] theorem tb_byteEl_224:a0g Tryz.prog 224=false:=by kernel_rfl
@[go_sem] theorem tb_tk_225:tk Tryz.prog 225=TK.other:=by kernel_rfl
@[go_sem] theorem tb_loadK_225:a0m Tryz.prog 225=some (false,1):=by kernel_rfl
@[go_sem] theorem tb_zeroK_225:a0p Tryz.prog 225=some [Value.tuple { toList:=[Value.slice none 0 0,Value.bool false] }]:=by kernel_rfl
@[go_sem] theorem tb_bytesK_225:a0f Tryz.prog 225=some 0:=by kernel_rfl
@[go_sem] theorem tb_byteEl_225:a0g Tryz.prog 225=false:=by kernel_rfl
@[go_sem] theorem tb_tk_227:tk Tryz.prog 227=TK.ptr:=by kernel_rfl
@[go_sem] theorem tb_loadK_227:a0m Tryz.prog 227=some (false,1):=by kernel_rfl
@[go_sem] theorem tb_zeroK_227:a0p Tryz.prog 227=some [Value.pointer none]:=by kernel_rfl
@[go_sem] theorem tb_bytesK_227:a0f Tryz.prog 227=some 8:=by kernel_rfl
@[go_sem] theorem tb_byteEl_227:a0g Tryz.prog 227=false:=by kernel_rfl
@[go_sem] theorem tb_tk_228:tk Tryz.prog 228=TK.slc:=by kernel_rfl
@[go_sem] theorem tb_loadK_228:a0m Tryz.prog 228=some (false,1):=by kernel_rfl
@[go_sem] theorem tb_zeroK_228:a0p Tryz.prog 228=some [Value.slice none 0 0]:=by kernel_rfl
@[go_sem] theorem tb_bytesK_228:a0f Tryz.prog 228=some 24:=by kernel_rfl
@[go_sem] theorem tb_sliceElem_228:a0u Tryz.prog 228=some (227,1):=by kernel_rfl
@[go_sem] theorem tb_arrElem_228:a2a Tryz.prog 228=none:=by kernel_rfl
@[go_sem] theorem tb_byteEl_228:a0g Tryz.prog 228=false:=by kernel_rfl
@[go_sem] theorem tb_tk_232:tk Tryz.prog 232=TK.mp:=by kernel_rfl
@[go_sem] theorem tb_loadK_232:a0m Tryz.prog 232=some (false,1):=by kernel_rfl
@[go_sem] theorem tb_zeroK_232:a0p Tryz.prog 232=some [Value.map none]:=by kernel_rfl
@[go_sem] theorem tb_bytesK_232:a0f Tryz.prog 232=some 8:=by kernel_rfl
@[go_sem] theorem tb_byteEl_232:a0g Tryz.prog 232=false:=by kernel_rfl
@[go_sem] theorem b6m:c2a Tryz.prog 232=some (KD.agg [TypeDesc.int IntKind.i64,TypeDesc.int IntKind.i64,TypeDesc.int IntKind.i64],V.v (Value.slice none 0 0)):=by kernel_rfl
@[go_sem] theorem tb_tk_234:tk Tryz.prog 234=TK.other:=by kernel_rfl
@[go_sem] theorem tb_loadK_234:a0m Tryz.prog 234=some (true,1):=by kernel_rfl
@[go_sem] theorem tb_zeroK_234:a0p Tryz.prog 234=some [Value.slice none 0 0]:=by kernel_rfl
@[go_sem] theorem tb_bytesK_234:a0f Tryz.prog 234=some 24:=by kernel_rfl
@[go_sem] theorem tb_placesK_234:a0y Tryz.prog 234=some [(0,1)]:=by kernel_rfl
@[go_sem] theorem tb_byteEl_234:a0g Tryz.prog 234=false:=by kernel_rfl
@[go_sem] theorem tb_fieldK_234_0:a0t Tryz.prog 234 0=some (0,true,1):=by kernel_rfl
@[go_sem] theorem tb_tk_235:tk Tryz.prog 235=TK.other:=by kernel_rfl
@[go_sem] theorem tb_loadK_235:a0m Tryz.prog 235=some (false,1):=by kernel_rfl
@[go_sem] theorem tb_zeroK_235:a0p Tryz.prog 235=some [Value.nilFunc]:=by kernel_rfl
@[go_sem] theorem tb_bytesK_235:a0f Tryz.prog 235=some 8:=by kernel_rfl
@[go_sem] theorem tb_byteEl_235:a0g Tryz.prog 235=false:=by kernel_rfl
@[go_sem] theorem tb_tk_236:tk Tryz.prog 236=TK.other:=by kernel_rfl
@[go_sem] theorem tb_loadK_236:a0m Tryz.prog 236=some (false,1):=by kernel_rfl
@[go_sem] theorem tb_zeroK_236:a0p Tryz.prog 236=some [Value.nilFunc]:=by kernel_rfl
@[go_sem] theorem tb_bytesK_236:a0f Tryz.prog 236=some 8:=by kernel_rfl
@[go_sem] theorem tb_byteEl_236:a0g Tryz.prog 236=false:=by kernel_rfl
@[go_sem] theorem tb_tk_238:tk Tryz.prog 238=TK.other:=by kernel_rfl
@[go_sem] theorem tb_loadK_238:a0m Tryz.prog 238=some (true,3):=by kernel_rfl
@[go_sem] theorem tb_zeroK_238:a0p Tryz.prog 238=some [Value.int IntKind.i64 0,Value.nilFunc,Value.nilFunc]:=by kernel_rfl
@[go_sem] theorem tb_bytesK_238:a0f Tryz.prog 238=some 24:=by kernel_rfl
@[go_sem] theorem tb_placesK_238:a0y Tryz.prog 238=some [(0,1),(1,1),(2,1)]:=by kernel_rfl
@[go_sem] theorem tb_byteEl_238:a0g Tryz.prog 238=false:=by kernel_rfl
@[go_sem] theorem tb_fieldK_238_0:a0t Tryz.prog 238 0=some (0,false,1):=by kernel_rfl
@[go_sem] theorem tb_fieldK_238_1:a0t Tryz.prog 238 1=some (1,false,1):=by kernel_rfl
@[go_sem] theorem tb_fieldK_238_2:a0t Tryz.prog 238 2=some (2,false,1):=by kernel_rfl
@[go_sem] theorem tb_tk_239:tk Tryz.prog 239=TK.other:=by kernel_rfl
@[go_sem] theorem tb_loadK_239:a0m Tryz.prog 239=some (true,12):=by kernel_rfl
@[go_sem] theorem tb_zeroK_239:a0p Tryz.prog 239=some [Value.int IntKind.i64 0,Value.nilFunc,Value.nilFunc,Value.int IntKind.i64 0,Value.nilFunc,Value.nilFunc,Value.int IntKind.i64 0,Value.nilFunc,Value.nilFunc,Value.int IntKind.i64 0,Value.nilFunc,Value.nilFunc]:=by kernel_rfl
@[go_sem] theorem tb_bytesK_239:a0f Tryz.prog 239=some 96:=by kernel_rfl
@[go_sem] theorem tb_sliceElem_239:a0u Tryz.prog 239=none:=by kernel_rfl
@[go_sem] theorem tb_arrElem_239:a2a Tryz.prog 239=some (4,3):=by kernel_rfl
@[go_sem] theorem tb_placesK_239:a0y Tryz.prog 239=some [(0,3),(3,3),(6,3),(9,3),(12,3),(15,3),(18,3),(21,3)]:=by kernel_rfl
@[go_sem] theorem tb_byteEl_239:a0g Tryz.prog 239=false:=by kernel_rfl
@[go_sem] theorem tb_arrLoad_239:a3c Tryz.prog 239=some (4,true,3):=by kernel_rfl
@[go_sem] theorem tb_tk_244:tk Tryz.prog 244=TK.other:=by kernel_rfl
@[go_sem] theorem tb_loadK_244:a0m Tryz.prog 244=some (false,1):=by kernel_rfl
@[go_sem] theorem tb_zeroK_244:a0p Tryz.prog 244=some [Value.nilFunc]:=by kernel_rfl
@[go_sem] theorem tb_bytesK_244:a0f Tryz.prog 244=some 8:=by kernel_rfl
@[go_sem] theorem tb_byteEl_244:a0g Tryz.prog 244=false:=by kernel_rfl
@[go_sem] theorem tb_tk_247:tk Tryz.prog 247=TK.other:=by kernel_rfl
@[go_sem] theorem tb_loadK_247:a0m Tryz.prog 247=some (true,5):=by kernel_rfl
@[go_sem] theorem tb_zeroK_247:a0p Tryz.prog 247=some [Value.bool false,Value.bool false,Value.bool false,Value.bool false,Value.nilFunc]:=by kernel_rfl
@[go_sem] theorem tb_bytesK_247:a0f Tryz.prog 247=some 16:=by kernel_rfl
@[go_sem] theorem tb_placesK_247:a0y Tryz.prog 247=some [(0,1),(1,1),(2,1),(3,1),(4,1)]:=by kernel_rfl
@[go_sem] theorem tb_byteEl_247:a0g Tryz.prog 247=false:=by kernel_rfl
@[go_sem] theorem tb_fieldK_247_0:a0t Tryz.prog 247 0=some (0,false,1):=by kernel_rfl
@[go_sem] theorem tb_fieldK_247_1:a0t Tryz.prog 247 1=some (1,false,1):=by kernel_rfl
@[go_sem] theorem tb_fieldK_247_2:a0t Tryz.prog 247 2=some (2,false,1):=by kernel_rfl
@[go_sem] theorem tb_fieldK_247_3:a0t Tryz.prog 247 3=some (3,false,1):=by kernel_rfl
@[go_sem] theorem tb_fieldK_247_4:a0t Tryz.prog 247 4=some (4,false,1):=by kernel_rfl
@[go_sem] theorem tb_tk_248:tk Tryz.prog 248=TK.other:=by kernel_rfl
@[go_sem] theorem tb_loadK_248:a0m Tryz.prog 248=some (true,25):=by kernel_rfl
@[go_sem] theorem tb_zeroK_248:a0p Tryz.prog 248=some [Value.bool false,Value.bool false,Value.bool false,Value.bool false,Value.nilFunc,Value.bool false,Value.bool false,Value.bool false,Value.bool false,Value.nilFunc,Value.bool false,Value.bool false,Value.bool false,Value.bool false,Value.nilFunc,Value.bool false,Value.bool false,Value.bool false,Value.bool false,Value.nilFunc,Value.bool false,Value.bool false,Value.bool false,Value.bool false,Value.nilFunc]:=by kernel_rfl
@[go_sem] theorem tb_bytesK_248:a0f Tryz.prog 248=some 80:=by kernel_rfl
@[go_sem] theorem tb_sliceElem_248:a0u Tryz.prog 248=none:=by kernel_rfl
@[go_sem] theorem tb_arrElem_248:a2a Tryz.prog 248=some (5,5):=by kernel_rfl
@[go_sem] theorem tb_placesK_248:a0y Tryz.prog 248=some [(0,5),(5,5),(10,5),(15,5),(20,5),(25,5),(30,5),(35,5)]:=by kernel_rfl
@[go_sem] theorem tb_byteEl_248:a0g Tryz.prog 248=false:=by kernel_rfl
@[go_sem] theorem tb_arrLoad_248:a3c Tryz.prog 248=some (5,true,5):=by kernel_rfl
@[go_sem] theorem tb_tk_254:tk Tryz.prog 254=TK.int IntKind.u64:=by kernel_rfl
@[go_sem] theorem tb_loadK_254:a0m Tryz.prog 254=some (false,1):=by kernel_rfl
@[go_sem] theorem tb_zeroK_254:a0p Tryz.prog 254=some [Value.int IntKind.u64 0]:=by kernel_rfl
@[go_sem] theorem tb_bytesK_254:a0f Tryz.prog 254=some 8:=by kernel_rfl
@[go_sem] theorem tb_byteEl_254:a0g Tryz.prog 254=false:=by kernel_rfl
@[go_sem] theorem tb_tk_256:tk Tryz.prog 256=TK.other:=by kernel_rfl
@[go_sem] theorem tb_loadK_256:a0m Tryz.prog 256=some (false,1):=by kernel_rfl
@[go_sem] theorem tb_zeroK_256:a0p Tryz.prog 256=some [Value.nilFunc]:=by kernel_rfl
@[go_sem] theorem tb_bytesK_256:a0f Tryz.prog 256=some 8:=by kernel_rfl
@[go_sem] theorem tb_byteEl_256:a0g Tryz.prog 256=false:=by kernel_rfl
@[go_sem] theorem tb_tk_262:tk Tryz.prog 262=TK.slc:=by kernel_rfl
@[go_sem] theorem tb_loadK_262:a0m Tryz.prog 262=some (false,1):=by kernel_rfl
@[go_sem] theorem tb_zeroK_262:a0p Tryz.prog 262=some [Value.slice none 0 0]:=by kernel_rfl
@[go_sem] theorem tb_bytesK_262:a0f Tryz.prog 262=some 24:=by kernel_rfl
@[go_sem] theorem tb_sliceElem_262:a0u Tryz.prog 262=some (84,3):=by kernel_rfl
@[go_sem] theorem tb_arrElem_262:a2a Tryz.prog 262=none:=by kernel_rfl
@[go_sem] theorem tb_byteEl_262:a0g Tryz.prog 262=false:=by kernel_rfl
@[go_sem] theorem tb_tk_264:tk Tryz.prog 264=TK.other:=by kernel_rfl
@[go_sem] theorem tb_loadK_264:a0m Tryz.prog 264=some (true,4):=by kernel_rfl
@[go_sem] theorem tb_zeroK_264:a0p Tryz.prog 264=some [Value.int IntKind.i64 0,Value.int IntKind.u8 0,Value.slice none 0 0,Value.slice none 0 0]:=by kernel_rfl
@[go_sem] theorem tb_bytesK_264:a0f Tryz.prog 264=some 64:=by kernel_rfl
@[go_sem] theorem tb_placesK_264:a0y Tryz.prog 264=some [(0,2),(2,1),(3,1)]:=by kernel_rfl
@[go_sem] theorem tb_byteEl_264:a0g Tryz.prog 264=false:=by kernel_rfl
@[go_sem] theorem tb_fieldK_264_0:a0t Tryz.prog 264 0=some (0,true,2):=by kernel_rfl
@[go_sem] theorem tb_fieldK_264_1:a0t Tryz.prog 264 1=some (2,false,1):=by kernel_rfl
@[go_sem] theorem tb_fieldK_264_2:a0t Tryz.prog 264 2=some (3,false,1):=by kernel_rfl
@[go_sem] theorem tb_tk_274:tk Tryz.prog 274=TK.other:=by kernel_rfl
@[go_sem] theorem tb_loadK_274:a0m Tryz.prog 274=some (false,1):=by kernel_rfl
@[go_sem] theorem tb_zeroK_274:a0p Tryz.prog 274=some [Value.pointer none]:=by kernel_rfl
@[go_sem] theorem tb_bytesK_274:a0f Tryz.prog 274=some 8:=by kernel_rfl
@[go_sem] theorem tb_byteEl_274:a0g Tryz.prog 274=false:=by kernel_rfl
@[go_sem] theorem tb_tk_283:tk Tryz.prog 283=TK.other:=by kernel_rfl
@[go_sem] theorem tb_loadK_283:a0m Tryz.prog 283=some (false,1):=by kernel_rfl
@[go_sem] theorem tb_zeroK_283:a0p Tryz.prog 283=some [Value.tuple { toList:=[Value.int IntKind.i64 0,Value.bool false] }]:=by kernel_rfl
@[go_sem] theorem tb_bytesK_283:a0f Tryz.prog 283=some 0:=by kernel_rfl
@[go_sem] theorem tb_byteEl_283:a0g Tryz.prog 283=false:=by kernel_rfl
@[go_sem] theorem tb_tk_293:tk Tryz.prog 293=TK.int IntKind.i64:=by kernel_rfl
@[go_sem] theorem tb_loadK_293:a0m Tryz.prog 293=some (false,1):=by kernel_rfl
@[go_sem] theorem tb_zeroK_293:a0p Tryz.prog 293=some [Value.int IntKind.i64 0]:=by kernel_rfl
@[go_sem] theorem tb_bytesK_293:a0f Tryz.prog 293=some 8:=by kernel_rfl
@[go_sem] theorem tb_byteEl_293:a0g Tryz.prog 293=false:=by kernel_rfl
@[go_sem] theorem tb_tk_294:tk Tryz.prog 294=TK.other:=by kernel_rfl
@[go_sem] theorem tb_loadK_294:a0m Tryz.prog 294=some (false,1):=by kernel_rfl
@[go_sem] theorem tb_zeroK_294:a0p Tryz.prog 294=some [Value.tuple { toList:=[Value.int IntKind.i64 0,Value.int IntKind.i64 0] }]:=by kernel_rfl
@[go_sem] theorem tb_bytesK_294:a0f Tryz.prog 294=some 0:=by kernel_rfl
@[go_sem] theorem tb_byteEl_294:a0g Tryz.prog 294=false:=by kernel_rfl
@[go_sem] theorem tb_tk_300:tk Tryz.prog 300=TK.int IntKind.u32:=by kernel_rfl
@[go_sem] theorem tb_loadK_300:a0m Tryz.prog 300=some (false,1):=by kernel_rfl
@[go_sem] theorem tb_zeroK_300:a0p Tryz.prog 300=some [Value.int IntKind.u32 0]:=by kernel_rfl
@[go_sem] theorem tb_bytesK_300:a0f Tryz.prog 300=some 4:=by kernel_rfl
@[go_sem] theorem tb_byteEl_300:a0g Tryz.prog 300=false:=by kernel_rfl
@[go_sem] theorem tb_tk_302:tk Tryz.prog 302=TK.int IntKind.u64:=by kernel_rfl
@[go_sem] theorem tb_loadK_302:a0m Tryz.prog 302=some (false,1):=by kernel_rfl
@[go_sem] theorem tb_zeroK_302:a0p Tryz.prog 302=some [Value.int IntKind.u64 0]:=by kernel_rfl
@[go_sem] theorem tb_bytesK_302:a0f Tryz.prog 302=some 8:=by kernel_rfl
@[go_sem] theorem tb_byteEl_302:a0g Tryz.prog 302=false:=by kernel_rfl
@[go_sem] theorem tb_tk_315:tk Tryz.prog 315=TK.other:=by kernel_rfl
@[go_sem] theorem tb_loadK_315:a0m Tryz.prog 315=some (true,4):=by kernel_rfl
@[go_sem] theorem tb_zeroK_315:a0p Tryz.prog 315=some [Value.int IntKind.i64 0,Value.int IntKind.i64 0,Value.int IntKind.i64 0,Value.int IntKind.i64 0]:=by kernel_rfl
@[go_sem] theorem tb_bytesK_315:a0f Tryz.prog 315=some 32:=by kernel_rfl
@[go_sem] theorem tb_placesK_315:a0y Tryz.prog 315=some [(0,1),(1,1),(2,1),(3,1)]:=by kernel_rfl
@[go_sem] theorem tb_byteEl_315:a0g Tryz.prog 315=false:=by kernel_rfl
@[go_sem] theorem tb_flatK_315:a5w Tryz.prog 315=some [TypeDesc.int IntKind.i64,TypeDesc.int IntKind.i64,TypeDesc.int IntKind.i64,TypeDesc.int IntKind.i64]:=by kernel_rfl
@[go_sem] theorem tb_fieldK_315_0:a0t Tryz.prog 315 0=some (0,false,1):=by kernel_rfl
@[go_sem] theorem tb_fieldK_315_1:a0t Tryz.prog 315 1=some (1,false,1):=by kernel_rfl
@[go_sem] theorem tb_fieldK_315_2:a0t Tryz.prog 315 2=some (2,false,1):=by kernel_rfl
@[go_sem] theorem tb_fieldK_315_3:a0t Tryz.prog 315 3=some (3,false,1):=by kernel_rfl
@[go_sem] theorem tb_tk_317:tk Tryz.prog 317=TK.other:=by kernel_rfl
@[go_sem] theorem tb_loadK_317:a0m Tryz.prog 317=some (false,1):=by kernel_rfl
@[go_sem] theorem tb_zeroK_317:a0p Tryz.prog 317=some [Value.nilFunc]:=by kernel_rfl
@[go_sem] theorem tb_bytesK_317:a0f Tryz.prog 317=some 8:=by kernel_rfl
@[go_sem] theorem tb_byteEl_317:a0g Tryz.prog 317=false:=by kernel_rfl
@[go_sem] theorem tb_tk_318:tk Tryz.prog 318=TK.other:=by kernel_rfl
@[go_sem] theorem tb_loadK_318:a0m Tryz.prog 318=some (false,1):=by kernel_rfl
@[go_sem] theorem tb_zeroK_318:a0p Tryz.prog 318=some [Value.nilFunc]:=by kernel_rfl
@[go_sem] theorem tb_bytesK_318:a0f Tryz.prog 318=some 8:=by kernel_rfl
@[go_sem] theorem tb_byteEl_318:a0g Tryz.prog 318=false:=by kernel_rfl
@[go_sem] theorem tb_tk_320:tk Tryz.prog 320=TK.other:=by kernel_rfl
@[go_sem] theorem tb_loadK_320:a0m Tryz.prog 320=some (false,1):=by kernel_rfl
@[go_sem] theorem tb_zeroK_320:a0p Tryz.prog 320=some [Value.nilFunc]:=by kernel_rfl
@[go_sem] theorem tb_bytesK_320:a0f Tryz.prog 320=some 8:=by kernel_rfl
@[go_sem] theorem tb_byteEl_320:a0g Tryz.prog 320=false:=by kernel_rfl
@[go_sem] theorem tb_tk_321:tk Tryz.prog 321=TK.other:=by kernel_rfl
@[go_sem] theorem tb_loadK_321:a0m Tryz.prog 321=some (true,1):=by kernel_rfl
@[go_sem] theorem tb_zeroK_321:a0p Tryz.prog 321=some [Value.nilFunc]:=by kernel_rfl
@[go_sem] theorem tb_bytesK_321:a0f Tryz.prog 321=some 8:=by kernel_rfl
@[go_sem] theorem tb_placesK_321:a0y Tryz.prog 321=some [(0,1)]:=by kernel_rfl
@[go_sem] theorem tb_byteEl_321:a0g Tryz.prog 321=false:=by kernel_rfl
@[go_sem] theorem tb_fieldK_321_0:a0t Tryz.prog 321 0=some (0,false,1):=by kernel_rfl
@[go_sem] theorem tb_tk_322:tk Tryz.prog 322=TK.other:=by kernel_rfl
@[go_sem] theorem tb_loadK_322:a0m Tryz.prog 322=some (true,4):=by kernel_rfl
@[go_sem] theorem tb_zeroK_322:a0p Tryz.prog 322=some [Value.nilFunc,Value.nilFunc,Value.nilFunc,Value.nilFunc]:=by kernel_rfl
@[go_sem] theorem tb_bytesK_322:a0f Tryz.prog 322=some 32:=by kernel_rfl
@[go_sem] theorem tb_sliceElem_322:a0u Tryz.prog 322=none:=by kernel_rfl
@[go_sem] theorem tb_arrElem_322:a2a Tryz.prog 322=some (4,1):=by kernel_rfl
@[go_sem] theorem tb_placesK_322:a0y Tryz.prog 322=some [(0,1),(1,1),(2,1),(3,1),(4,1),(5,1),(6,1),(7,1)]:=by kernel_rfl
@[go_sem] theorem tb_byteEl_322:a0g Tryz.prog 322=false:=by kernel_rfl
@[go_sem] theorem tb_arrLoad_322:a3c Tryz.prog 322=some (4,true,1):=by kernel_rfl
@[go_sem] theorem tb_tk_323:tk Tryz.prog 323=TK.other:=by kernel_rfl
@[go_sem] theorem tb_loadK_323:a0m Tryz.prog 323=some (true,24):=by kernel_rfl
@[go_sem] theorem tb_zeroK_323:a0p Tryz.prog 323=some [Value.int IntKind.u8 0,Value.int IntKind.u8 0,Value.int IntKind.u8 0,Value.int IntKind.u8 0,Value.int IntKind.u8 0,Value.int IntKind.u8 0,Value.int IntKind.u8 0,Value.int IntKind.u8 0,Value.int IntKind.u8 0,Value.int IntKind.u8 0,Value.int IntKind.u8 0,Value.int IntKind.u8 0,Value.int IntKind.u8 0,Value.int IntKind.u8 0,Value.int IntKind.u8 0,Value.int IntKind.u8 0,Value.int IntKind.u8 0,Value.int IntKind.u8 0,Value.int IntKind.u8 0,Value.int IntKind.u8 0,Value.int IntKind.u8 0,Value.int IntKind.u8 0,Value.int IntKind.u8 0,Value.int IntKind.u8 0]:=by kernel_rfl
@[go_sem] theorem tb_bytesK_323:a0f Tryz.prog 323=some 24:=by kernel_rfl
@[go_sem] theorem tb_sliceElem_323:a0u Tryz.prog 323=none:=by kernel_rfl
@[go_sem] theorem tb_arrElem_323:a2a Tryz.prog 323=some (24,1):=by kernel_rfl
@[go_sem] theorem tb_placesK_323:a0y Tryz.prog 323=some [(0,1),(1,1),(2,1),(3,1),(4,1),(5,1),(6,1),(7,1)]:=by kernel_rfl
@[go_sem] theorem tb_byteEl_323:a0g Tryz.prog 323=false:=by kernel_rfl
@[go_sem] theorem tb_flatK_323:a5w Tryz.prog 323=some [TypeDesc.int IntKind.u8,TypeDesc.int IntKind.u8,TypeDesc.int IntKind.u8,TypeDesc.int IntKind.u8,TypeDesc.int IntKind.u8,TypeDesc.int IntKind.u8,TypeDesc.int IntKind.u8,TypeDesc.int IntKind.u8,TypeDesc.int IntKind.u8,TypeDesc.int IntKind.u8,TypeDesc.int IntKind.u8,TypeDesc.int IntKind.u8,TypeDesc.int IntKind.u8,TypeDesc.int IntKind.u8,TypeDesc.int IntKind.u8,TypeDesc.int IntKind.u8,TypeDesc.int IntKind.u8,TypeDesc.int IntKind.u8,TypeDesc.int IntKind.u8,TypeDesc.int IntKind.u8,TypeDesc.int IntKind.u8,TypeDesc.int IntKind.u8,TypeDesc.int IntKind.u8,TypeDesc.int IntKind.u8]:=by kernel_rfl
@[go_sem] theorem tb_arrLoad_323:a3c Tryz.prog 323=some (24,false,1):=by kernel_rfl
@[go_sem] theorem tb_tk_325:tk Tryz.prog 325=TK.other:=by kernel_rfl
@[go_sem] theorem tb_loadK_325:a0m Tryz.prog 325=some (false,1):=by kernel_rfl
@[go_sem] theorem tb_zeroK_325:a0p Tryz.prog 325=some [Value.tuple { toList:=[Value.slice none 0 0,Value.string ByteArray.empty] }]:=by kernel_rfl
@[go_sem] theorem tb_bytesK_325:a0f Tryz.prog 325=some 0:=by kernel_rfl
@[go_sem] theorem tb_byteEl_325:a0g Tryz.prog 325=false:=by kernel_rfl
@[go_sem] theorem tb_tk_329:tk Tryz.prog 329=TK.int IntKind.i64:=by kernel_rfl
@[go_sem] theorem tb_loadK_329:a0m Tryz.prog 329=some (false,1):=by kernel_rfl
@[go_sem] theorem tb_zeroK_329:a0p Tryz.prog 329=some [Value.int IntKind.i64 0]:=by kernel_rfl
@[go_sem] theorem tb_bytesK_329:a0f Tryz.prog 329=some 8:=by kernel_rfl
@[go_sem] theorem tb_byteEl_329:a0g Tryz.prog 329=false:=by kernel_rfl
@[go_sem] theorem tb_tk_330:tk Tryz.prog 330=TK.other:=by kernel_rfl
@[go_sem] theorem tb_loadK_330:a0m Tryz.prog 330=some (false,1):=by kernel_rfl
@[go_sem] theorem tb_zeroK_330:a0p Tryz.prog 330=some [Value.tuple { toList:=[Value.int IntKind.i64 0,Value.nilIface] }]:=by kernel_rfl
@[go_sem] theorem tb_bytesK_330:a0f Tryz.prog 330=some 0:=by kernel_rfl
@[go_sem] theorem tb_byteEl_330:a0g Tryz.prog 330=false:=by kernel_rfl
@[go_sem] theorem tb_tk_332:tk Tryz.prog 332=TK.ptr:=by kernel_rfl
@[go_sem] theorem tb_loadK_332:a0m Tryz.prog 332=some (false,1):=by kernel_rfl
@[go_sem] theorem tb_zeroK_332:a0p Tryz.prog 332=some [Value.pointer none]:=by kernel_rfl
@[go_sem] theorem tb_bytesK_332:a0f Tryz.prog 332=some 8:=by kernel_rfl
@[go_sem] theorem tb_byteEl_332:a0g Tryz.prog 332=false:=by kernel_rfl
@[go_sem] theorem tb_tk_349:tk Tryz.prog 349=TK.other:=by kernel_rfl
@[go_sem] theorem tb_loadK_349:a0m Tryz.prog 349=some (false,1):=by kernel_rfl
@[go_sem] theorem tb_zeroK_349:a0p Tryz.prog 349=some [Value.nilFunc]:=by kernel_rfl
@[go_sem] theorem tb_bytesK_349:a0f Tryz.prog 349=some 8:=by kernel_rfl
@[go_sem] theorem tb_byteEl_349:a0g Tryz.prog 349=false:=by kernel_rfl
@[go_sem] theorem tb_tk_353:tk Tryz.prog 353=TK.other:=by kernel_rfl
@[go_sem] theorem tb_loadK_353:a0m Tryz.prog 353=some (true,20):=by kernel_rfl
@[go_sem] theorem tb_zeroK_353:a0p Tryz.prog 353=some [Value.int IntKind.u64 0,Value.int IntKind.u64 0,Value.int IntKind.u64 0,Value.int IntKind.u64 0,Value.int IntKind.u64 0,Value.int IntKind.u64 0,Value.int IntKind.u64 0,Value.int IntKind.u64 0,Value.int IntKind.u64 0,Value.int IntKind.u64 0,Value.int IntKind.u64 0,Value.int IntKind.u64 0,Value.int IntKind.u64 0,Value.int IntKind.u64 0,Value.int IntKind.u64 0,Value.int IntKind.u64 0,Value.int IntKind.u64 0,Value.int IntKind.u64 0,Value.int IntKind.u64 0,Value.int IntKind.u64 0]:=by kernel_rfl
@[go_sem] theorem tb_bytesK_353:a0f Tryz.prog 353=some 160:=by kernel_rfl
@[go_sem] theorem tb_sliceElem_353:a0u Tryz.prog 353=none:=by kernel_rfl
@[go_sem] theorem tb_arrElem_353:a2a Tryz.prog 353=some (20,1):=by kernel_rfl
@[go_sem] theorem tb_placesK_353:a0y Tryz.prog 353=some [(0,1),(1,1),(2,1),(3,1),(4,1),(5,1),(6,1),(7,1)]:=by kernel_rfl
@[go_sem] theorem tb_byteEl_353:a0g Tryz.prog 353=false:=by kernel_rfl
@[go_sem] theorem tb_flatK_353:a5w Tryz.prog 353=some [TypeDesc.int IntKind.u64,TypeDesc.int IntKind.u64,TypeDesc.int IntKind.u64,TypeDesc.int IntKind.u64,TypeDesc.int IntKind.u64,TypeDesc.int IntKind.u64,TypeDesc.int IntKind.u64,TypeDesc.int IntKind.u64,TypeDesc.int IntKind.u64,TypeDesc.int IntKind.u64,TypeDesc.int IntKind.u64,TypeDesc.int IntKind.u64,TypeDesc.int IntKind.u64,TypeDesc.int IntKind.u64,TypeDesc.int IntKind.u64,TypeDesc.int IntKind.u64,TypeDesc.int IntKind.u64,TypeDesc.int IntKind.u64,TypeDesc.int IntKind.u64,TypeDesc.int IntKind.u64]:=by kernel_rfl
@[go_sem] theorem tb_arrLoad_353:a3c Tryz.prog 353=some (20,false,1):=by kernel_rfl
@[go_sem] theorem tb_tk_354:tk Tryz.prog 354=TK.other:=by kernel_rfl
@[go_sem] theorem tb_loadK_354:a0m Tryz.prog 354=some (true,65):=by kernel_rfl
@[go_sem] theorem tb_bytesK_354:a0f Tryz.prog 354=some 65:=by kernel_rfl
@[go_sem] theorem tb_sliceElem_354:a0u Tryz.prog 354=none:=by kernel_rfl
@[go_sem] theorem tb_arrElem_354:a2a Tryz.prog 354=some (65,1):=by kernel_rfl
@[go_sem] theorem tb_placesK_354:a0y Tryz.prog 354=some [(0,1),(1,1),(2,1),(3,1),(4,1),(5,1),(6,1),(7,1)]:=by kernel_rfl
@[go_sem] theorem tb_byteEl_354:a0g Tryz.prog 354=false:=by kernel_rfl
@[go_sem] theorem tb_arrLoad_354:a3c Tryz.prog 354=some (65,false,1):=by kernel_rfl
@[go_sem] theorem tb_tk_357:tk Tryz.prog 357=TK.other:=by kernel_rfl
@[go_sem] theorem tb_loadK_357:a0m Tryz.prog 357=some (false,1):=by kernel_rfl
@[go_sem] theorem tb_zeroK_357:a0p Tryz.prog 357=some [Value.tuple { toList:=[Value.int IntKind.i32 0,Value.int IntKind.i64 0] }]:=by kernel_rfl
@[go_sem] theorem tb_bytesK_357:a0f Tryz.prog 357=some 0:=by kernel_rfl
@[go_sem] theorem tb_byteEl_357:a0g Tryz.prog 357=false:=by kernel_rfl
@[go_sem] theorem tb_tk_359:tk Tryz.prog 359=TK.other:=by kernel_rfl
@[go_sem] theorem tb_loadK_359:a0m Tryz.prog 359=some (false,1):=by kernel_rfl
@[go_sem] theorem tb_zeroK_359:a0p Tryz.prog 359=some [Value.tuple { toList:=[Value.int IntKind.u64 0,Value.nilIface] }]:=by kernel_rfl
@[go_sem] theorem tb_bytesK_359:a0f Tryz.prog 359=some 0:=by kernel_rfl
@[go_sem] theorem tb_byteEl_359:a0g Tryz.prog 359=false:=by kernel_rfl
@[go_sem] theorem tb_tk_363:tk Tryz.prog 363=TK.other:=by kernel_rfl
@[go_sem] theorem tb_loadK_363:a0m Tryz.prog 363=some (true,3):=by kernel_rfl
@[go_sem] theorem tb_zeroK_363:a0p Tryz.prog 363=some [Value.string ByteArray.empty,Value.string ByteArray.empty,Value.nilIface]:=by kernel_rfl
@[go_sem] theorem tb_bytesK_363:a0f Tryz.prog 363=some 48:=by kernel_rfl
@[go_sem] theorem tb_placesK_363:a0y Tryz.prog 363=some [(0,1),(1,1),(2,1)]:=by kernel_rfl
@[go_sem] theorem tb_byteEl_363:a0g Tryz.prog 363=false:=by kernel_rfl
@[go_sem] theorem tb_fieldK_363_0:a0t Tryz.prog 363 0=some (0,false,1):=by kernel_rfl
@[go_sem] theorem tb_fieldK_363_1:a0t Tryz.prog 363 1=some (1,false,1):=by kernel_rfl
@[go_sem] theorem tb_fieldK_363_2:a0t Tryz.prog 363 2=some (2,false,1):=by kernel_rfl
@[go_sem] theorem tb_tk_372:tk Tryz.prog 372=TK.other:=by kernel_rfl
@[go_sem] theorem tb_loadK_372:a0m Tryz.prog 372=some (false,1):=by kernel_rfl
@[go_sem] theorem tb_zeroK_372:a0p Tryz.prog 372=some [Value.tuple { toList:=[Value.int IntKind.u32 0,Value.int IntKind.u32 0] }]:=by kernel_rfl
@[go_sem] theorem tb_bytesK_372:a0f Tryz.prog 372=some 0:=by kernel_rfl
@[go_sem] theorem tb_byteEl_372:a0g Tryz.prog 372=false:=by kernel_rfl
@[go_sem] theorem tb_tk_375:tk Tryz.prog 375=TK.ptr:=by kernel_rfl
@[go_sem] theorem tb_loadK_375:a0m Tryz.prog 375=some (false,1):=by kernel_rfl
@[go_sem] theorem tb_zeroK_375:a0p Tryz.prog 375=some [Value.pointer none]:=by kernel_rfl
@[go_sem] theorem tb_bytesK_375:a0f Tryz.prog 375=some 8:=by kernel_rfl
@[go_sem] theorem tb_byteEl_375:a0g Tryz.prog 375=false:=by kernel_rfl
@[go_sem] theorem tb_tk_377:tk Tryz.prog 377=TK.other:=by kernel_rfl
@[go_sem] theorem tb_loadK_377:a0m Tryz.prog 377=some (true,1):=by kernel_rfl
@[go_sem] theorem tb_zeroK_377:a0p Tryz.prog 377=some [Value.string ByteArray.empty]:=by kernel_rfl
@[go_sem] theorem tb_bytesK_377:a0f Tryz.prog 377=some 16:=by kernel_rfl
@[go_sem] theorem tb_placesK_377:a0y Tryz.prog 377=some [(0,1)]:=by kernel_rfl
@[go_sem] theorem tb_byteEl_377:a0g Tryz.prog 377=false:=by kernel_rfl
@[go_sem] theorem tb_flatK_377:a5w Tryz.prog 377=some [TypeDesc.string]:=by kernel_rfl
@[go_sem] theorem tb_fieldK_377_0:a0t Tryz.prog 377 0=some (0,false,1):=by kernel_rfl
@[go_sem] theorem tb_tk_383:tk Tryz.prog 383=TK.other:=by kernel_rfl
@[go_sem] theorem tb_loadK_383:a0m Tryz.prog 383=some (true,32):=by kernel_rfl
@[go_sem] theorem tb_zeroK_383:a0p Tryz.prog 383=some [Value.int IntKind.u8 0,Value.int IntKind.u8 0,Value.int IntKind.u8 0,Value.int IntKind.u8 0,Value.int IntKind.u8 0,Value.int IntKind.u8 0,Value.int IntKind.u8 0,Value.int IntKind.u8 0,Value.int IntKind.u8 0,Value.int IntKind.u8 0,Value.int IntKind.u8 0,Value.int IntKind.u8 0,Value.int IntKind.u8 0,Value.int IntKind.u8 0,Value.int IntKind.u8 0,Value.int IntKind.u8 0,Value.int IntKind.u8 0,Value.int IntKind.u8 0,Value.int IntKind.u8 0,Value.int IntKind.u8 0,Value.int IntKind.u8 0,Value.int IntKind.u8 0,Value.int IntKind.u8 0,Value.int IntKind.u8 0,Value.int IntKind.u8 0,Value.int IntKind.u8 0,Value.int IntKind.u8 0,Value.int IntKind.u8 0,Value.int IntKind.u8 0,Value.int IntKind.u8 0,Value.int IntKind.u8 0,Value.int IntKind.u8 0]:=by kernel_rfl
@[go_sem] theorem tb_bytesK_383:a0f Tryz.prog 383=some 32:=by kernel_rfl
@[go_sem] theorem tb_sliceElem_383:a0u Tryz.prog 383=none:=by kernel_rfl
@[go_sem] theorem tb_arrElem_383:a2a Tryz.prog 383=some (32,1):=by kernel_rfl
@[go_sem] theorem tb_placesK_383:a0y Tryz.prog 383=some [(0,1),(1,1),(2,1),(3,1),(4,1),(5,1),(6,1),(7,1)]:=by kernel_rfl
@[go_sem] theorem tb_byteEl_383:a0g Tryz.prog 383=false:=by kernel_rfl
@[go_sem] theorem tb_flatK_383:a5w Tryz.prog 383=some [TypeDesc.int IntKind.u8,TypeDesc.int IntKind.u8,TypeDesc.int IntKind.u8,TypeDesc.int IntKind.u8,TypeDesc.int IntKind.u8,TypeDesc.int IntKind.u8,TypeDesc.int IntKind.u8,TypeDesc.int IntKind.u8,TypeDesc.int IntKind.u8,TypeDesc.int IntKind.u8,TypeDesc.int IntKind.u8,TypeDesc.int IntKind.u8,TypeDesc.int IntKind.u8,TypeDesc.int IntKind.u8,TypeDesc.int IntKind.u8,TypeDesc.int IntKind.u8,TypeDesc.int IntKind.u8,TypeDesc.int IntKind.u8,TypeDesc.int IntKind.u8,TypeDesc.int IntKind.u8,TypeDesc.int IntKind.u8,TypeDesc.int IntKind.u8,TypeDesc.int IntKind.u8,TypeDesc.int IntKind.u8,TypeDesc.int IntKind.u8,TypeDesc.int IntKind.u8,TypeDesc.int IntKind.u8,TypeDesc.int IntKind.u8,TypeDesc.int IntKind.u8,TypeDesc.int IntKind.u8,TypeDesc.int IntKind.u8,TypeDesc.int IntKind.u8]:=by kernel_rfl
@[go_sem] theorem tb_arrLoad_383:a3c Tryz.prog 383=some (32,false,1):=by kernel_rfl
@[go_sem] theorem tb_tk_384:tk Tryz.prog 384=TK.other:=by kernel_rfl
@[go_sem] theorem tb_loadK_384:a0m Tryz.prog 384=some (true,64):=by kernel_rfl
@[go_sem] theorem tb_bytesK_384:a0f Tryz.prog 384=some 64:=by kernel_rfl
@[go_sem] theorem tb_sliceElem_384:a0u Tryz.prog 384=none:=by kernel_rfl
@[go_sem] theorem tb_arrElem_384:a2a Tryz.prog 384=some (64,1):=by kernel_rfl
@[go_sem] theorem tb_placesK_384:a0y Tryz.prog 384=some [(0,1),(1,1),(2,1),(3,1),(4,1),(5,1),(6,1),(7,1)]:=by kernel_rfl
@[go_sem] theorem tb_byteEl_384:a0g Tryz.prog 384=false:=by kernel_rfl
@[go_sem] theorem tb_arrLoad_384:a3c Tryz.prog 384=some (64,false,1):=by kernel_rfl
@[go_sem] theorem tb_tk_385:tk Tryz.prog 385=TK.other:=by kernel_rfl
@[go_sem] theorem tb_loadK_385:a0m Tryz.prog 385=some (true,256):=by kernel_rfl
@[go_sem] theorem tb_bytesK_385:a0f Tryz.prog 385=some 256:=by kernel_rfl
@[go_sem] theorem tb_sliceElem_385:a0u Tryz.prog 385=none:=by kernel_rfl
@[go_sem] theorem tb_arrElem_385:a2a Tryz.prog 385=some (256,1):=by kernel_rfl
@[go_sem] theorem tb_placesK_385:a0y Tryz.prog 385=some [(0,1),(1,1),(2,1),(3,1),(4,1),(5,1),(6,1),(7,1)]:=by kernel_rfl
@[go_sem] theorem tb_byteEl_385:a0g Tryz.prog 385=false:=by kernel_rfl
@[go_sem] theorem tb_arrLoad_385:a3c Tryz.prog 385=some (256,false,1):=by kernel_rfl
@[go_sem] theorem tb_tk_387:tk Tryz.prog 387=TK.other:=by kernel_rfl
@[go_sem] theorem tb_loadK_387:a0m Tryz.prog 387=some (true,2):=by kernel_rfl
@[go_sem] theorem tb_zeroK_387:a0p Tryz.prog 387=some [Value.int IntKind.u8 0,Value.int IntKind.u8 0]:=by kernel_rfl
@[go_sem] theorem tb_bytesK_387:a0f Tryz.prog 387=some 2:=by kernel_rfl
@[go_sem] theorem tb_placesK_387:a0y Tryz.prog 387=some [(0,1),(1,1)]:=by kernel_rfl
@[go_sem] theorem tb_byteEl_387:a0g Tryz.prog 387=false:=by kernel_rfl
@[go_sem] theorem tb_flatK_387:a5w Tryz.prog 387=some [TypeDesc.int IntKind.u8,TypeDesc.int IntKind.u8]:=by kernel_rfl
@[go_sem] theorem tb_fieldK_387_0:a0t Tryz.prog 387 0=some (0,false,1):=by kernel_rfl
@[go_sem] theorem tb_fieldK_387_1:a0t Tryz.prog 387 1=some (1,false,1):=by kernel_rfl
@[go_sem] theorem tb_tk_388:tk Tryz.prog 388=TK.other:=by kernel_rfl
@[go_sem] theorem tb_loadK_388:a0m Tryz.prog 388=some (true,32):=by kernel_rfl
@[go_sem] theorem tb_zeroK_388:a0p Tryz.prog 388=some [Value.int IntKind.u8 0,Value.int IntKind.u8 0,Value.int IntKind.u8 0,Value.int IntKind.u8 0,Value.int IntKind.u8 0,Value.int IntKind.u8 0,Value.int IntKind.u8 0,Value.int IntKind.u8 0,Value.int IntKind.u8 0,Value.int IntKind.u8 0,Value.int IntKind.u8 0,Value.int IntKind.u8 0,Value.int IntKind.u8 0,Value.int IntKind.u8 0,Value.int IntKind.u8 0,Value.int IntKind.u8 0,Value.int IntKind.u8 0,Value.int IntKind.u8 0,Value.int IntKind.u8 0,Value.int IntKind.u8 0,Value.int IntKind.u8 0,Value.int IntKind.u8 0,Value.int IntKind.u8 0,Value.int IntKind.u8 0,Value.int IntKind.u8 0,Value.int IntKind.u8 0,Value.int IntKind.u8 0,Value.int IntKind.u8 0,Value.int IntKind.u8 0,Value.int IntKind.u8 0,Value.int IntKind.u8 0,Value.int IntKind.u8 0]:=by kernel_rfl
@[go_sem] theorem tb_bytesK_388:a0f Tryz.prog 388=some 32:=by kernel_rfl
@[go_sem] theorem tb_sliceElem_388:a0u Tryz.prog 388=none:=by kernel_rfl
@[go_sem] theorem tb_arrElem_388:a2a Tryz.prog 388=some (16,2):=by kernel_rfl
@[go_sem] theorem tb_placesK_388:a0y Tryz.prog 388=some [(0,2),(2,2),(4,2),(6,2),(8,2),(10,2),(12,2),(14,2)]:=by kernel_rfl
@[go_sem] theorem tb_byteEl_388:a0g Tryz.prog 388=false:=by kernel_rfl
@[go_sem] theorem tb_flatK_388:a5w Tryz.prog 388=some [TypeDesc.int IntKind.u8,TypeDesc.int IntKind.u8,TypeDesc.int IntKind.u8,TypeDesc.int IntKind.u8,TypeDesc.int IntKind.u8,TypeDesc.int IntKind.u8,TypeDesc.int IntKind.u8,TypeDesc.int IntKind.u8,TypeDesc.int IntKind.u8,TypeDesc.int IntKind.u8,TypeDesc.int IntKind.u8,TypeDesc.int IntKind.u8,TypeDesc.int IntKind.u8,TypeDesc.int IntKind.u8,TypeDesc.int IntKind.u8,TypeDesc.int IntKind.u8,TypeDesc.int IntKind.u8,TypeDesc.int IntKind.u8,TypeDesc.int IntKind.u8,TypeDesc.int IntKind.u8,TypeDesc.int IntKind.u8,TypeDesc.int IntKind.u8,TypeDesc.int IntKind.u8,TypeDesc.int IntKind.u8,TypeDesc.int IntKind.u8,TypeDesc.int IntKind.u8,TypeDesc.int IntKind.u8,TypeDesc.int IntKind.u8,TypeDesc.int IntKind.u8,TypeDesc.int IntKind.u8,TypeDesc.int IntKind.u8,TypeDesc.int IntKind.u8]:=by kernel_rfl
@[go_sem] theorem tb_arrLoad_388:a3c Tryz.prog 388=some (16,true,2):=by kernel_rfl
@[go_sem] theorem mixed:Tryz.prog.follows .mixedOrders=true:=by kernel_rfl
end Go.Proofs.YtmjhfccbbfpppaaGreatDoor
