/- The law TtyRaw, as the printed row asks it: proved in YtgcmhfoegbaaiaaMyTtyE1. -/
import Derived.Test.YtgcmhfoegbaaiaaMyTtyE1
